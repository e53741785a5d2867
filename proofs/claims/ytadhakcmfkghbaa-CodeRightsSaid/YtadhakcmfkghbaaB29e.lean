/- slices.IndexFunc, slices.ContainsFunc, code.every (printed by wip/genev.py). -/
import Derived.Test.YtadhakcmfkghbaaTF
import Derived.Test.YtadhakcmfkghbaaAL13
import Derived.Test.YtadhakcmfkghbaaPD
import Derived.Test.YtadhakcmfkghbaaPT
namespace Go.Proofs.Ytadhakcmfkghbaa
open Go.RowKit
open Classical in
noncomputable def firstQ {α : Type} (p : α → Prop) : List α → Nat → Int
  | [], _ => -1
  | x :: xs, i => if p x then i else firstQ p xs (i + 1)
theorem firstQ_nil {α : Type} (p : α → Prop) (i : Nat) : firstQ p [] i = -1 := rfl
theorem firstQ_yes {α : Type} {p : α → Prop} {x : α} {xs : List α} {i : Nat} (h : p x) : firstQ p (x :: xs) i = i := by simp [firstQ, h]
theorem firstQ_no {α : Type} {p : α → Prop} {x : α} {xs : List α} {i : Nat} (h : ¬ p x) : firstQ p (x :: xs) i = firstQ p xs (i + 1) := by simp [firstQ, h]
theorem firstQ_iff {α : Type} (p : α → Prop) : ∀ (l : List α) (i : Nat), 0 ≤ firstQ p l i ↔ ∃ x ∈ l, p x
  | [], i => by simp [firstQ]
  | x :: xs, i => by
    by_cases h : p x
    · rw [firstQ_yes h]; simp [h]
    · rw [firstQ_no h, firstQ_iff p xs]; simp [h]
theorem not_ex {α : Type} (p : α → Prop) (l : List α) : (¬ ∃ x ∈ l, ¬ p x) ↔ ∀ x ∈ l, p x := by
  constructor
  · intro h x hx
    exact Classical.byContradiction fun k => h ⟨x, hx, k⟩
  · rintro h ⟨x, hx, k⟩
    exact k (h x hx)
set_option maxHeartbeats 4000000 in
set_option maxRecDepth 100000 in
theorem IdxF_S (p : ByteArray → Prop) (g : FuncId) (fs cs : List AV) (l : List ByteArray) (hg : ∀ x ∈ l, BCall Try.prog g (fs ++ [(.val (.string x))] ++ cs) (p x)) : PCall Try.prog 58 [.seq 1 (strs l), .clo (.func g) fs cs] (.val (.int .i64 (firstQ p l 0))) := by
  have hl := strs_len l
  refine ACall.enter Try.func58 rfl (by kernel_rfl) rfl (Nat.le_of_ble_eq_true rfl) ?_
  refine c_start ?_
  refine c_lens (t := 0) rfl (.seq _ _) (fun hmax => ?_)
  refine c_seq ?_
  refine c_region ?_
  refine AOps.st 4 rfl rfl rfl (op_assign rfl rfl ?_)
  refine AOps.nil ?_
  refine go_code ?_
  refine c_seq ?_
  refine c_seq ?_
  refine c_region ?_
  refine AOps.st 6 rfl rfl rfl (op_move rfl rfl ?_)
  refine AOps.st 7 rfl rfl rfl (op_len rfl tu_24 rfl (.seq _ _) (fun n7 => ?_))
  refine AOps.st 8 rfl rfl rfl (op_move rfl rfl ?_)
  refine AOps.nil ?_
  refine go_code ?_
  refine c_block ?_
  apply c_loopkm [2, 3, 4, 5, 6, 8, 9, 10, 11, 12, 13, 14, 15, 16, 17, 18] (σ := Nat) (fun zz => match zz with | i => [(8, .val (.int .i64 i))]) (fun zz => match zz with | i => i ≤ l.length ∧ firstQ p (l.drop i) i = firstQ p l 0) (fun zz => match zz with | i => l.length - i) (0)
  · repeat' (first | exact Drops.nil | apply Drops.keep rfl | apply Drops.skip rfl)
  · exact ⟨by omega, rfl⟩
  · exact (by repeat' (first | exact SLe.nil _ | refine SLe.cons rfl ?_ ?_ | exact Le.refl _ | exact Le.own _ _ _ | exact Le.nil _))
  rintro i hI
  try dsimp only [List.cons_append, List.nil_append] at hI ⊢
  obtain ⟨hi, hu⟩ := hI
  refine c_seq ?_
  refine c_region ?_
  refine AOps.st 9 rfl rfl rfl (op_lss rfl rfl rfl ?_); intro c9 h9
  refine AOps.nil ?_
  refine go_code ?_
  refine c_seq ?_
  rcases bool_split h9 with ⟨rfl, g9⟩ | ⟨rfl, g9⟩
  · refine c_cond_f rfl ?_
    refine c_exit ?_
    refine x_code ?_
    refine x_lp ?_
    refine x_here ?_
    refine go_code ?_
    refine c_seq ?_
    refine c_region ?_
    refine AOps.st 4 rfl rfl rfl (op_assign rfl rfl ?_)
    refine AOps.nil ?_
    refine go_code ?_
    refine c_ret ?_
    refine out_tmp rfl rfl (Le.refl _) (by first | exact MLe.none _ | exact MLe.refl _ | (repeat' (first | exact MLe.nil | exact MLe.refl _ | refine MLe.cons _ ?_ | refine MLe.drop _ ?_))) ⟨?_, rfl⟩
    rw [List.drop_eq_nil_of_le (by omega)] at hu
    rw [← hu, firstQ_nil]
  · refine c_cond_t rfl ?_
    refine c_skip ?_
    refine go_code ?_
    refine c_seq ?_
    refine c_block ?_
    refine c_seq ?_
    obtain ⟨y, hxy⟩ := get_some (l := l) (i := i) (by first | omega | (simp at *; omega))
    have hcy := strs_get hxy
    have hmy := List.mem_of_getElem? hxy
    refine c_region ?_
    refine AOps.st 10 rfl rfl rfl (op_move rfl rfl ?_)
    refine AOps.st 5 rfl rfl rfl (op_assign rfl rfl ?_)
    refine AOps.nil ?_
    refine go_code ?_
    refine c_seq ?_
    rw [drop_get hxy] at hu
    refine c_region ?_
    refine AOps.st 11 rfl rfl rfl (op_move rfl rfl ?_)
    refine AOps.st 12 rfl rfl rfl (op_move rfl rfl ?_)
    refine AOps.st 13 rfl rfl rfl (op_move rfl rfl ?_)
    refine AOps.st 14 rfl rfl rfl (op_index rfl te_24 rfl (.seq _ _) rfl rfl (by assumption) ?_)
    first | (refine AOps.st 15 rfl rfl rfl (op_load_m1 (i := 0) rfl ta_9 rfl rfl rfl ?_)) | (refine AOps.st 15 rfl rfl rfl (op_load_m1 (i := 1) rfl ta_9 rfl rfl rfl ?_)) | (refine AOps.st 15 rfl rfl rfl (op_load_m1 (i := 2) rfl ta_9 rfl rfl rfl ?_)) | (refine AOps.st 15 rfl rfl rfl (op_load_m1 (i := 3) rfl ta_9 rfl rfl rfl ?_)) | (refine AOps.st 15 rfl rfl rfl (op_load_m1 (i := 4) rfl ta_9 rfl rfl rfl ?_)) | (refine AOps.st 15 rfl rfl rfl (op_load_m1 (i := 5) rfl ta_9 rfl rfl rfl ?_)) | (refine AOps.st 15 rfl rfl rfl (op_load_m1 (i := 6) rfl ta_9 rfl rfl rfl ?_)) | (refine AOps.st 15 rfl rfl rfl (op_load_m1 (i := 7) rfl ta_9 rfl rfl rfl ?_)) | (refine AOps.st 15 rfl rfl rfl (op_load_m1 (i := 8) rfl ta_9 rfl rfl rfl ?_)) | (refine AOps.st 15 rfl rfl rfl (op_load_m1 (i := 9) rfl ta_9 rfl rfl rfl ?_)) | (refine AOps.st 15 rfl rfl rfl (op_load_c1 rfl ta_9 rfl rfl ?_))
    refine AOps.st 16 rfl rfl rfl (op_callvb (xs := [.tmp 15]) rfl rfl rfl (hg _ hmy) (by first | exact Les.refl _ | (repeat' (first | exact Les.refl _ | refine Les.cons ?_ ?_ | exact Le.refl _ | exact Le.own _ _ _ | exact Le.nil _ | refine Le.agg ?_))) ?_); intro c16 h16
    refine AOps.nil ?_
    refine go_code ?_
    rcases bool_split h16 with ⟨rfl, g16⟩ | ⟨rfl, g16⟩
    · refine c_cond_f rfl ?_
      refine c_skip ?_
      refine go_blk ?_
      refine go_code ?_
      refine c_region ?_
      refine AOps.st 18 rfl rfl rfl (op_add rfl rfl rfl (IntWalk.i64_in _ (by omega)) ?_)
      refine AOps.st 8 rfl rfl rfl (op_move rfl rfl ?_)
      refine AOps.nil ?_
      refine go_lp ?_
      exact ⟨i + 1, ⟨by omega, by rw [← hu, firstQ_no g16]⟩, by simp; omega, (by repeat' (first | exact SLe.nil _ | refine SLe.cons rfl ?_ ?_ | exact Le.refl _ | exact Le.own _ _ _ | exact Le.nil _)), (by first | exact MLe.none _ | exact MLe.refl _ | (repeat' (first | exact MLe.nil | exact MLe.refl _ | refine MLe.cons _ ?_ | refine MLe.drop _ ?_)))⟩
    · refine c_cond_t rfl ?_
      refine c_seq ?_
      refine c_region ?_
      refine AOps.st 17 rfl rfl rfl (op_move rfl rfl ?_)
      refine AOps.st 4 rfl rfl rfl (op_assign rfl rfl ?_)
      refine AOps.nil ?_
      refine go_code ?_
      refine c_ret ?_
      exact out_tmp rfl rfl (Le.refl _) (by first | exact MLe.none _ | exact MLe.refl _ | (repeat' (first | exact MLe.nil | exact MLe.refl _ | refine MLe.cons _ ?_ | refine MLe.drop _ ?_))) ⟨by rw [← hu, firstQ_yes g16], rfl⟩
set_option maxHeartbeats 4000000 in
set_option maxRecDepth 100000 in
theorem ConF_S (p : ByteArray → Prop) (g : FuncId) (fs cs : List AV) (l : List ByteArray) (hg : ∀ x ∈ l, BCall Try.prog g (fs ++ [(.val (.string x))] ++ cs) (p x)) : BCall Try.prog 34 [.seq 1 (strs l), .clo (.func g) fs cs] (∃ x ∈ l, p x) := by
  have H := IdxF_S p g fs cs l hg
  have hf := firstQ_iff p l 0
  refine ACall.enter Try.func34 rfl (by kernel_rfl) rfl (Nat.le_of_ble_eq_true rfl) ?_
  refine c_start ?_
  refine c_seq ?_
  refine c_region ?_
  refine AOps.st 4 rfl rfl rfl (op_assign rfl rfl ?_)
  refine AOps.nil ?_
  refine go_code ?_
  refine c_seq ?_
  refine c_region ?_
  refine AOps.st 5 rfl rfl rfl (op_move rfl rfl ?_)
  refine AOps.st 6 rfl rfl rfl (op_move rfl rfl ?_)
  refine AOps.st 7 rfl rfl rfl (op_callp (xs := [.tmp 5, .tmp 6]) rfl rfl (H) (by first | exact Les.refl _ | (repeat' (first | exact Les.refl _ | refine Les.cons ?_ ?_ | exact Le.refl _ | exact Le.own _ _ _ | exact Le.nil _ | refine Le.agg ?_))) ?_)
  refine AOps.st 8 rfl rfl rfl (op_geq rfl rfl rfl ?_); intro c8 h8
  refine AOps.st 4 rfl rfl rfl (op_assign rfl rfl ?_)
  refine AOps.nil ?_
  refine go_code ?_
  refine c_ret ?_
  exact out_tmp rfl rfl (Le.refl _) (by first | exact MLe.none _ | exact MLe.refl _ | (repeat' (first | exact MLe.nil | exact MLe.refl _ | refine MLe.cons _ ?_ | refine MLe.drop _ ?_))) ⟨⟨_, h8.trans hf, rfl⟩, rfl⟩
set_option maxHeartbeats 4000000 in
set_option maxRecDepth 100000 in
theorem Evn_S (p : Prop) (g : FuncId) (fs cs : List AV) (x : ByteArray) (hg : BCall Try.prog g (fs ++ [(.val (.string x))] ++ cs) p) : BCall Try.prog 35 [(.val (.string x)), .cptr [.clo (.func g) fs cs]] (¬ p) := by
  refine ACall.enter Try.func35 rfl (by kernel_rfl) rfl (Nat.le_of_ble_eq_true rfl) ?_
  refine c_start ?_
  refine c_seq ?_
  refine c_region ?_
  refine AOps.st 3 rfl rfl rfl (op_assign rfl rfl ?_)
  refine AOps.nil ?_
  refine go_code ?_
  refine c_seq ?_
  refine c_region ?_
  first | (refine AOps.st 4 rfl rfl rfl (op_load_m1 (i := 0) rfl ta_49 rfl rfl rfl ?_)) | (refine AOps.st 4 rfl rfl rfl (op_load_m1 (i := 1) rfl ta_49 rfl rfl rfl ?_)) | (refine AOps.st 4 rfl rfl rfl (op_load_m1 (i := 2) rfl ta_49 rfl rfl rfl ?_)) | (refine AOps.st 4 rfl rfl rfl (op_load_m1 (i := 3) rfl ta_49 rfl rfl rfl ?_)) | (refine AOps.st 4 rfl rfl rfl (op_load_m1 (i := 4) rfl ta_49 rfl rfl rfl ?_)) | (refine AOps.st 4 rfl rfl rfl (op_load_m1 (i := 5) rfl ta_49 rfl rfl rfl ?_)) | (refine AOps.st 4 rfl rfl rfl (op_load_m1 (i := 6) rfl ta_49 rfl rfl rfl ?_)) | (refine AOps.st 4 rfl rfl rfl (op_load_m1 (i := 7) rfl ta_49 rfl rfl rfl ?_)) | (refine AOps.st 4 rfl rfl rfl (op_load_m1 (i := 8) rfl ta_49 rfl rfl rfl ?_)) | (refine AOps.st 4 rfl rfl rfl (op_load_m1 (i := 9) rfl ta_49 rfl rfl rfl ?_)) | (refine AOps.st 4 rfl rfl rfl (op_load_c1 rfl ta_49 rfl rfl ?_))
  refine AOps.st 5 rfl rfl rfl (op_move rfl rfl ?_)
  refine AOps.st 6 rfl rfl rfl (op_callvb (xs := [.tmp 5]) rfl rfl rfl (hg) (by first | exact Les.refl _ | (repeat' (first | exact Les.refl _ | refine Les.cons ?_ ?_ | exact Le.refl _ | exact Le.own _ _ _ | exact Le.nil _ | refine Le.agg ?_))) ?_); intro c6 h6
  refine AOps.st 7 rfl rfl rfl (op_notc rfl rfl ?_); intro c7 h7
  try replace h7 := nott h7 h6
  refine AOps.st 3 rfl rfl rfl (op_assign rfl rfl ?_)
  refine AOps.nil ?_
  refine go_code ?_
  refine c_ret ?_
  exact out_tmp rfl rfl (Le.refl _) (by first | exact MLe.none _ | exact MLe.refl _ | (repeat' (first | exact MLe.nil | exact MLe.refl _ | refine MLe.cons _ ?_ | refine MLe.drop _ ?_))) ⟨⟨_, h7, rfl⟩, rfl⟩
set_option maxHeartbeats 4000000 in
set_option maxRecDepth 100000 in
theorem Ev_S (p : ByteArray → Prop) (g : FuncId) (fs cs : List AV) (l : List ByteArray) (hg : ∀ x ∈ l, BCall Try.prog g (fs ++ [(.val (.string x))] ++ cs) (p x)) : BCall Try.prog 14 [.seq 1 (strs l), .clo (.func g) fs cs] (∀ x ∈ l, p x) := by
  have H := ConF_S (fun x => ¬ p x) 35 [] [.cptr [.clo (.func g) fs cs]] l (fun x hx => Evn_S (p x) g fs cs x (hg x hx))
  refine ACall.enter Try.func14 rfl (by kernel_rfl) rfl (Nat.le_of_ble_eq_true rfl) ?_
  refine c_start ?_
  refine c_seq ?_
  refine c_region ?_
  refine AOps.st 3 rfl rfl rfl (op_boxc (cs' := [_]) rfl rfl rfl rfl ?_)
  refine AOps.st 4 rfl rfl rfl (op_assign rfl rfl ?_)
  refine AOps.nil ?_
  refine go_code ?_
  refine c_seq ?_
  refine c_region ?_
  refine AOps.st 5 rfl rfl rfl (op_move rfl rfl ?_)
  refine AOps.st 6 rfl rfl rfl (op_makeFunc (fs := []) (cs := [.tmp 3]) rfl rfl rfl ?_)
  refine AOps.st 7 rfl rfl rfl (op_callb (xs := [.tmp 5, .tmp 6]) rfl rfl (H) (by first | exact Les.refl _ | (repeat' (first | exact Les.refl _ | refine Les.cons ?_ ?_ | exact Le.refl _ | exact Le.own _ _ _ | exact Le.nil _ | refine Le.agg ?_))) ?_); intro c7 h7
  refine AOps.st 8 rfl rfl rfl (op_notc rfl rfl ?_); intro c8 h8
  try replace h8 := nott h8 h7
  refine AOps.st 4 rfl rfl rfl (op_assign rfl rfl ?_)
  refine AOps.nil ?_
  refine go_code ?_
  refine c_ret ?_
  exact out_tmp rfl rfl (Le.refl _) (by first | exact MLe.none _ | exact MLe.refl _ | (repeat' (first | exact MLe.nil | exact MLe.refl _ | refine MLe.cons _ ?_ | refine MLe.drop _ ?_))) ⟨⟨_, h8.trans (not_ex p l), rfl⟩, rfl⟩
set_option maxHeartbeats 4000000 in
set_option maxRecDepth 100000 in
theorem IdxF_Ato (p : Ato → Prop) (g : FuncId) (fs cs : List AV) (l : List Ato) (hg : ∀ x ∈ l, BCall Try.prog g (fs ++ [(.agg (x).cells)] ++ cs) (p x)) : PCall Try.prog 76 [.seq 2 (Ato.cellss l), .clo (.func g) fs cs] (.val (.int .i64 (firstQ p l 0))) := by
  have hl := Ato.cellss_len l
  refine ACall.enter Try.func76 rfl (by kernel_rfl) rfl (Nat.le_of_ble_eq_true rfl) ?_
  refine c_start ?_
  refine c_lens (t := 0) rfl (.seq _ _) (fun hmax => ?_)
  refine c_seq ?_
  refine c_region ?_
  refine AOps.st 4 rfl rfl rfl (op_assign rfl rfl ?_)
  refine AOps.nil ?_
  refine go_code ?_
  refine c_seq ?_
  refine c_seq ?_
  refine c_region ?_
  refine AOps.st 6 rfl rfl rfl (op_move rfl rfl ?_)
  refine AOps.st 7 rfl rfl rfl (op_len rfl tu_42 rfl (.seq _ _) (fun n7 => ?_))
  refine AOps.st 8 rfl rfl rfl (op_move rfl rfl ?_)
  refine AOps.nil ?_
  refine go_code ?_
  refine c_block ?_
  apply c_loopkm [2, 3, 4, 5, 6, 8, 9, 10, 11, 12, 13, 14, 15, 16, 17, 18] (σ := Nat) (fun zz => match zz with | i => [(8, .val (.int .i64 i))]) (fun zz => match zz with | i => i ≤ l.length ∧ firstQ p (l.drop i) i = firstQ p l 0) (fun zz => match zz with | i => l.length - i) (0)
  · repeat' (first | exact Drops.nil | apply Drops.keep rfl | apply Drops.skip rfl)
  · exact ⟨by omega, rfl⟩
  · exact (by repeat' (first | exact SLe.nil _ | refine SLe.cons rfl ?_ ?_ | exact Le.refl _ | exact Le.own _ _ _ | exact Le.nil _))
  rintro i hI
  try dsimp only [List.cons_append, List.nil_append] at hI ⊢
  obtain ⟨hi, hu⟩ := hI
  refine c_seq ?_
  refine c_region ?_
  refine AOps.st 9 rfl rfl rfl (op_lss rfl rfl rfl ?_); intro c9 h9
  refine AOps.nil ?_
  refine go_code ?_
  refine c_seq ?_
  rcases bool_split h9 with ⟨rfl, g9⟩ | ⟨rfl, g9⟩
  · refine c_cond_f rfl ?_
    refine c_exit ?_
    refine x_code ?_
    refine x_lp ?_
    refine x_here ?_
    refine go_code ?_
    refine c_seq ?_
    refine c_region ?_
    refine AOps.st 4 rfl rfl rfl (op_assign rfl rfl ?_)
    refine AOps.nil ?_
    refine go_code ?_
    refine c_ret ?_
    refine out_tmp rfl rfl (Le.refl _) (by first | exact MLe.none _ | exact MLe.refl _ | (repeat' (first | exact MLe.nil | exact MLe.refl _ | refine MLe.cons _ ?_ | refine MLe.drop _ ?_))) ⟨?_, rfl⟩
    rw [List.drop_eq_nil_of_le (by omega)] at hu
    rw [← hu, firstQ_nil]
  · refine c_cond_t rfl ?_
    refine c_skip ?_
    refine go_code ?_
    refine c_seq ?_
    refine c_block ?_
    refine c_seq ?_
    obtain ⟨⟨yk, yn⟩, hxy⟩ := get_some (l := l) (i := i) (by first | omega | (simp at *; omega))
    have hcy := Ato.cellss_get hxy
    have hmy := List.mem_of_getElem? hxy
    refine c_region ?_
    refine AOps.st 10 rfl rfl rfl (op_move rfl rfl ?_)
    refine AOps.st 5 rfl rfl rfl (op_assign rfl rfl ?_)
    refine AOps.nil ?_
    refine go_code ?_
    refine c_seq ?_
    rw [drop_get hxy] at hu
    refine c_region ?_
    refine AOps.st 11 rfl rfl rfl (op_move rfl rfl ?_)
    refine AOps.st 12 rfl rfl rfl (op_move rfl rfl ?_)
    refine AOps.st 13 rfl rfl rfl (op_move rfl rfl ?_)
    refine AOps.st 14 rfl rfl rfl (op_index rfl te_42 rfl (.seq _ _) rfl rfl (by assumption) ?_)
    first | (refine AOps.st 15 rfl rfl rfl (op_load_m (cs' := [_, _]) (i := 0) rfl ta_41 rfl rfl rfl rfl ?_)) | (refine AOps.st 15 rfl rfl rfl (op_load_m (cs' := [_, _]) (i := 1) rfl ta_41 rfl rfl rfl rfl ?_)) | (refine AOps.st 15 rfl rfl rfl (op_load_m (cs' := [_, _]) (i := 2) rfl ta_41 rfl rfl rfl rfl ?_)) | (refine AOps.st 15 rfl rfl rfl (op_load_m (cs' := [_, _]) (i := 3) rfl ta_41 rfl rfl rfl rfl ?_)) | (refine AOps.st 15 rfl rfl rfl (op_load_m (cs' := [_, _]) (i := 4) rfl ta_41 rfl rfl rfl rfl ?_)) | (refine AOps.st 15 rfl rfl rfl (op_load_m (cs' := [_, _]) (i := 5) rfl ta_41 rfl rfl rfl rfl ?_)) | (refine AOps.st 15 rfl rfl rfl (op_load_m (cs' := [_, _]) (i := 6) rfl ta_41 rfl rfl rfl rfl ?_)) | (refine AOps.st 15 rfl rfl rfl (op_load_m (cs' := [_, _]) (i := 7) rfl ta_41 rfl rfl rfl rfl ?_)) | (refine AOps.st 15 rfl rfl rfl (op_load_m (cs' := [_, _]) (i := 8) rfl ta_41 rfl rfl rfl rfl ?_)) | (refine AOps.st 15 rfl rfl rfl (op_load_m (cs' := [_, _]) (i := 9) rfl ta_41 rfl rfl rfl rfl ?_)) | (refine AOps.st 15 rfl rfl rfl (op_load_c (cs' := [_, _]) rfl ta_41 rfl rfl rfl ?_))
    refine AOps.st 16 rfl rfl rfl (op_callvb (xs := [.tmp 15]) rfl rfl rfl (hg _ hmy) (by first | exact Les.refl _ | (repeat' (first | exact Les.refl _ | refine Les.cons ?_ ?_ | exact Le.refl _ | exact Le.own _ _ _ | exact Le.nil _ | refine Le.agg ?_))) ?_); intro c16 h16
    refine AOps.nil ?_
    refine go_code ?_
    rcases bool_split h16 with ⟨rfl, g16⟩ | ⟨rfl, g16⟩
    · refine c_cond_f rfl ?_
      refine c_skip ?_
      refine go_blk ?_
      refine go_code ?_
      refine c_region ?_
      refine AOps.st 18 rfl rfl rfl (op_add rfl rfl rfl (IntWalk.i64_in _ (by omega)) ?_)
      refine AOps.st 8 rfl rfl rfl (op_move rfl rfl ?_)
      refine AOps.nil ?_
      refine go_lp ?_
      exact ⟨i + 1, ⟨by omega, by rw [← hu, firstQ_no g16]⟩, by simp; omega, (by repeat' (first | exact SLe.nil _ | refine SLe.cons rfl ?_ ?_ | exact Le.refl _ | exact Le.own _ _ _ | exact Le.nil _)), (by first | exact MLe.none _ | exact MLe.refl _ | (repeat' (first | exact MLe.nil | exact MLe.refl _ | refine MLe.cons _ ?_ | refine MLe.drop _ ?_)))⟩
    · refine c_cond_t rfl ?_
      refine c_seq ?_
      refine c_region ?_
      refine AOps.st 17 rfl rfl rfl (op_move rfl rfl ?_)
      refine AOps.st 4 rfl rfl rfl (op_assign rfl rfl ?_)
      refine AOps.nil ?_
      refine go_code ?_
      refine c_ret ?_
      exact out_tmp rfl rfl (Le.refl _) (by first | exact MLe.none _ | exact MLe.refl _ | (repeat' (first | exact MLe.nil | exact MLe.refl _ | refine MLe.cons _ ?_ | refine MLe.drop _ ?_))) ⟨by rw [← hu, firstQ_yes g16], rfl⟩
set_option maxHeartbeats 4000000 in
set_option maxRecDepth 100000 in
theorem ConF_Ato (p : Ato → Prop) (g : FuncId) (fs cs : List AV) (l : List Ato) (hg : ∀ x ∈ l, BCall Try.prog g (fs ++ [(.agg (x).cells)] ++ cs) (p x)) : BCall Try.prog 67 [.seq 2 (Ato.cellss l), .clo (.func g) fs cs] (∃ x ∈ l, p x) := by
  have H := IdxF_Ato p g fs cs l hg
  have hf := firstQ_iff p l 0
  refine ACall.enter Try.func67 rfl (by kernel_rfl) rfl (Nat.le_of_ble_eq_true rfl) ?_
  refine c_start ?_
  refine c_seq ?_
  refine c_region ?_
  refine AOps.st 4 rfl rfl rfl (op_assign rfl rfl ?_)
  refine AOps.nil ?_
  refine go_code ?_
  refine c_seq ?_
  refine c_region ?_
  refine AOps.st 5 rfl rfl rfl (op_move rfl rfl ?_)
  refine AOps.st 6 rfl rfl rfl (op_move rfl rfl ?_)
  refine AOps.st 7 rfl rfl rfl (op_callp (xs := [.tmp 5, .tmp 6]) rfl rfl (H) (by first | exact Les.refl _ | (repeat' (first | exact Les.refl _ | refine Les.cons ?_ ?_ | exact Le.refl _ | exact Le.own _ _ _ | exact Le.nil _ | refine Le.agg ?_))) ?_)
  refine AOps.st 8 rfl rfl rfl (op_geq rfl rfl rfl ?_); intro c8 h8
  refine AOps.st 4 rfl rfl rfl (op_assign rfl rfl ?_)
  refine AOps.nil ?_
  refine go_code ?_
  refine c_ret ?_
  exact out_tmp rfl rfl (Le.refl _) (by first | exact MLe.none _ | exact MLe.refl _ | (repeat' (first | exact MLe.nil | exact MLe.refl _ | refine MLe.cons _ ?_ | refine MLe.drop _ ?_))) ⟨⟨_, h8.trans hf, rfl⟩, rfl⟩
set_option maxHeartbeats 4000000 in
set_option maxRecDepth 100000 in
theorem Evn_Ato (p : Prop) (g : FuncId) (fs cs : List AV) (x : Ato) (hg : BCall Try.prog g (fs ++ [(.agg (x).cells)] ++ cs) p) : BCall Try.prog 68 [(.agg (x).cells), .cptr [.clo (.func g) fs cs]] (¬ p) := by
  obtain ⟨yk, yn⟩ := x
  refine ACall.enter Try.func68 rfl (by kernel_rfl) rfl (Nat.le_of_ble_eq_true rfl) ?_
  refine c_start ?_
  refine c_seq ?_
  refine c_region ?_
  refine AOps.st 2 rfl rfl rfl (op_boxe (cs' := [_, _]) rfl rfl rfl rfl ?_); intro b2
  refine AOps.st 3 rfl rfl rfl (op_assign rfl rfl ?_)
  refine AOps.nil ?_
  refine go_code ?_
  refine c_seq ?_
  refine c_region ?_
  first | (refine AOps.st 4 rfl rfl rfl (op_load_m1 (i := 0) rfl ta_96 rfl rfl rfl ?_)) | (refine AOps.st 4 rfl rfl rfl (op_load_m1 (i := 1) rfl ta_96 rfl rfl rfl ?_)) | (refine AOps.st 4 rfl rfl rfl (op_load_m1 (i := 2) rfl ta_96 rfl rfl rfl ?_)) | (refine AOps.st 4 rfl rfl rfl (op_load_m1 (i := 3) rfl ta_96 rfl rfl rfl ?_)) | (refine AOps.st 4 rfl rfl rfl (op_load_m1 (i := 4) rfl ta_96 rfl rfl rfl ?_)) | (refine AOps.st 4 rfl rfl rfl (op_load_m1 (i := 5) rfl ta_96 rfl rfl rfl ?_)) | (refine AOps.st 4 rfl rfl rfl (op_load_m1 (i := 6) rfl ta_96 rfl rfl rfl ?_)) | (refine AOps.st 4 rfl rfl rfl (op_load_m1 (i := 7) rfl ta_96 rfl rfl rfl ?_)) | (refine AOps.st 4 rfl rfl rfl (op_load_m1 (i := 8) rfl ta_96 rfl rfl rfl ?_)) | (refine AOps.st 4 rfl rfl rfl (op_load_m1 (i := 9) rfl ta_96 rfl rfl rfl ?_)) | (refine AOps.st 4 rfl rfl rfl (op_load_c1 rfl ta_96 rfl rfl ?_))
  refine AOps.st 5 rfl rfl rfl (op_load_m (cs' := [_, _]) (i := 0) rfl ta_41 rfl rfl rfl rfl ?_)
  refine AOps.st 6 rfl rfl rfl (op_callvb (xs := [.tmp 5]) rfl rfl rfl (hg) (by first | exact Les.refl _ | (repeat' (first | exact Les.refl _ | refine Les.cons ?_ ?_ | exact Le.refl _ | exact Le.own _ _ _ | exact Le.nil _ | refine Le.agg ?_))) ?_); intro c6 h6
  refine AOps.st 7 rfl rfl rfl (op_notc rfl rfl ?_); intro c7 h7
  try replace h7 := nott h7 h6
  refine AOps.st 3 rfl rfl rfl (op_assign rfl rfl ?_)
  refine AOps.nil ?_
  refine go_code ?_
  refine c_ret ?_
  exact out_tmp rfl rfl (Le.refl _) (by first | exact MLe.none _ | exact MLe.refl _ | (repeat' (first | exact MLe.nil | exact MLe.refl _ | refine MLe.cons _ ?_ | refine MLe.drop _ ?_))) ⟨⟨_, h7, rfl⟩, rfl⟩
set_option maxHeartbeats 4000000 in
set_option maxRecDepth 100000 in
theorem Ev_Ato (p : Ato → Prop) (g : FuncId) (fs cs : List AV) (l : List Ato) (hg : ∀ x ∈ l, BCall Try.prog g (fs ++ [(.agg (x).cells)] ++ cs) (p x)) : BCall Try.prog 44 [.seq 2 (Ato.cellss l), .clo (.func g) fs cs] (∀ x ∈ l, p x) := by
  have H := ConF_Ato (fun x => ¬ p x) 68 [] [.cptr [.clo (.func g) fs cs]] l (fun x hx => Evn_Ato (p x) g fs cs x (hg x hx))
  refine ACall.enter Try.func44 rfl (by kernel_rfl) rfl (Nat.le_of_ble_eq_true rfl) ?_
  refine c_start ?_
  refine c_seq ?_
  refine c_region ?_
  refine AOps.st 3 rfl rfl rfl (op_boxc (cs' := [_]) rfl rfl rfl rfl ?_)
  refine AOps.st 4 rfl rfl rfl (op_assign rfl rfl ?_)
  refine AOps.nil ?_
  refine go_code ?_
  refine c_seq ?_
  refine c_region ?_
  refine AOps.st 5 rfl rfl rfl (op_move rfl rfl ?_)
  refine AOps.st 6 rfl rfl rfl (op_makeFunc (fs := []) (cs := [.tmp 3]) rfl rfl rfl ?_)
  refine AOps.st 7 rfl rfl rfl (op_callb (xs := [.tmp 5, .tmp 6]) rfl rfl (H) (by first | exact Les.refl _ | (repeat' (first | exact Les.refl _ | refine Les.cons ?_ ?_ | exact Le.refl _ | exact Le.own _ _ _ | exact Le.nil _ | refine Le.agg ?_))) ?_); intro c7 h7
  refine AOps.st 8 rfl rfl rfl (op_notc rfl rfl ?_); intro c8 h8
  try replace h8 := nott h8 h7
  refine AOps.st 4 rfl rfl rfl (op_assign rfl rfl ?_)
  refine AOps.nil ?_
  refine go_code ?_
  refine c_ret ?_
  exact out_tmp rfl rfl (Le.refl _) (by first | exact MLe.none _ | exact MLe.refl _ | (repeat' (first | exact MLe.nil | exact MLe.refl _ | refine MLe.cons _ ?_ | refine MLe.drop _ ?_))) ⟨⟨_, h8.trans (not_ex p l), rfl⟩, rfl⟩
set_option maxHeartbeats 4000000 in
set_option maxRecDepth 100000 in
theorem IdxF_Is (p : Is → Prop) (g : FuncId) (fs cs : List AV) (l : List Is) (hg : ∀ x ∈ l, BCall Try.prog g (fs ++ [(.agg (x).cells)] ++ cs) (p x)) : PCall Try.prog 66 [.seq 7 (Is.cellss l), .clo (.func g) fs cs] (.val (.int .i64 (firstQ p l 0))) := by
  have hl := Is.cellss_len l
  refine ACall.enter Try.func66 rfl (by kernel_rfl) rfl (Nat.le_of_ble_eq_true rfl) ?_
  refine c_start ?_
  refine c_lens (t := 0) rfl (.seq _ _) (fun hmax => ?_)
  refine c_seq ?_
  refine c_region ?_
  refine AOps.st 4 rfl rfl rfl (op_assign rfl rfl ?_)
  refine AOps.nil ?_
  refine go_code ?_
  refine c_seq ?_
  refine c_seq ?_
  refine c_region ?_
  refine AOps.st 6 rfl rfl rfl (op_move rfl rfl ?_)
  refine AOps.st 7 rfl rfl rfl (op_len rfl tu_22 rfl (.seq _ _) (fun n7 => ?_))
  refine AOps.st 8 rfl rfl rfl (op_move rfl rfl ?_)
  refine AOps.nil ?_
  refine go_code ?_
  refine c_block ?_
  apply c_loopkm [2, 3, 4, 5, 6, 8, 9, 10, 11, 12, 13, 14, 15, 16, 17, 18] (σ := Nat) (fun zz => match zz with | i => [(8, .val (.int .i64 i))]) (fun zz => match zz with | i => i ≤ l.length ∧ firstQ p (l.drop i) i = firstQ p l 0) (fun zz => match zz with | i => l.length - i) (0)
  · repeat' (first | exact Drops.nil | apply Drops.keep rfl | apply Drops.skip rfl)
  · exact ⟨by omega, rfl⟩
  · exact (by repeat' (first | exact SLe.nil _ | refine SLe.cons rfl ?_ ?_ | exact Le.refl _ | exact Le.own _ _ _ | exact Le.nil _))
  rintro i hI
  try dsimp only [List.cons_append, List.nil_append] at hI ⊢
  obtain ⟨hi, hu⟩ := hI
  refine c_seq ?_
  refine c_region ?_
  refine AOps.st 9 rfl rfl rfl (op_lss rfl rfl rfl ?_); intro c9 h9
  refine AOps.nil ?_
  refine go_code ?_
  refine c_seq ?_
  rcases bool_split h9 with ⟨rfl, g9⟩ | ⟨rfl, g9⟩
  · refine c_cond_f rfl ?_
    refine c_exit ?_
    refine x_code ?_
    refine x_lp ?_
    refine x_here ?_
    refine go_code ?_
    refine c_seq ?_
    refine c_region ?_
    refine AOps.st 4 rfl rfl rfl (op_assign rfl rfl ?_)
    refine AOps.nil ?_
    refine go_code ?_
    refine c_ret ?_
    refine out_tmp rfl rfl (Le.refl _) (by first | exact MLe.none _ | exact MLe.refl _ | (repeat' (first | exact MLe.nil | exact MLe.refl _ | refine MLe.cons _ ?_ | refine MLe.drop _ ?_))) ⟨?_, rfl⟩
    rw [List.drop_eq_nil_of_le (by omega)] at hu
    rw [← hu, firstQ_nil]
  · refine c_cond_t rfl ?_
    refine c_skip ?_
    refine go_code ?_
    refine c_seq ?_
    refine c_block ?_
    refine c_seq ?_
    obtain ⟨⟨yop, ya, yb, yn, yar, yfs, ycp⟩, hxy⟩ := get_some (l := l) (i := i) (by first | omega | (simp at *; omega))
    have hcy := Is.cellss_get hxy
    have hmy := List.mem_of_getElem? hxy
    refine c_region ?_
    refine AOps.st 10 rfl rfl rfl (op_move rfl rfl ?_)
    refine AOps.st 5 rfl rfl rfl (op_assign rfl rfl ?_)
    refine AOps.nil ?_
    refine go_code ?_
    refine c_seq ?_
    rw [drop_get hxy] at hu
    refine c_region ?_
    refine AOps.st 11 rfl rfl rfl (op_move rfl rfl ?_)
    refine AOps.st 12 rfl rfl rfl (op_move rfl rfl ?_)
    refine AOps.st 13 rfl rfl rfl (op_move rfl rfl ?_)
    refine AOps.st 14 rfl rfl rfl (op_index rfl te_22 rfl (.seq _ _) rfl rfl (by assumption) ?_)
    first | (refine AOps.st 15 rfl rfl rfl (op_load_m (cs' := [_, _, _, _, _, _, _]) (i := 0) rfl ta_46 rfl rfl rfl rfl ?_)) | (refine AOps.st 15 rfl rfl rfl (op_load_m (cs' := [_, _, _, _, _, _, _]) (i := 1) rfl ta_46 rfl rfl rfl rfl ?_)) | (refine AOps.st 15 rfl rfl rfl (op_load_m (cs' := [_, _, _, _, _, _, _]) (i := 2) rfl ta_46 rfl rfl rfl rfl ?_)) | (refine AOps.st 15 rfl rfl rfl (op_load_m (cs' := [_, _, _, _, _, _, _]) (i := 3) rfl ta_46 rfl rfl rfl rfl ?_)) | (refine AOps.st 15 rfl rfl rfl (op_load_m (cs' := [_, _, _, _, _, _, _]) (i := 4) rfl ta_46 rfl rfl rfl rfl ?_)) | (refine AOps.st 15 rfl rfl rfl (op_load_m (cs' := [_, _, _, _, _, _, _]) (i := 5) rfl ta_46 rfl rfl rfl rfl ?_)) | (refine AOps.st 15 rfl rfl rfl (op_load_m (cs' := [_, _, _, _, _, _, _]) (i := 6) rfl ta_46 rfl rfl rfl rfl ?_)) | (refine AOps.st 15 rfl rfl rfl (op_load_m (cs' := [_, _, _, _, _, _, _]) (i := 7) rfl ta_46 rfl rfl rfl rfl ?_)) | (refine AOps.st 15 rfl rfl rfl (op_load_m (cs' := [_, _, _, _, _, _, _]) (i := 8) rfl ta_46 rfl rfl rfl rfl ?_)) | (refine AOps.st 15 rfl rfl rfl (op_load_m (cs' := [_, _, _, _, _, _, _]) (i := 9) rfl ta_46 rfl rfl rfl rfl ?_)) | (refine AOps.st 15 rfl rfl rfl (op_load_c (cs' := [_, _, _, _, _, _, _]) rfl ta_46 rfl rfl rfl ?_))
    refine AOps.st 16 rfl rfl rfl (op_callvb (xs := [.tmp 15]) rfl rfl rfl (hg _ hmy) (by first | exact Les.refl _ | (repeat' (first | exact Les.refl _ | refine Les.cons ?_ ?_ | exact Le.refl _ | exact Le.own _ _ _ | exact Le.nil _ | refine Le.agg ?_))) ?_); intro c16 h16
    refine AOps.nil ?_
    refine go_code ?_
    rcases bool_split h16 with ⟨rfl, g16⟩ | ⟨rfl, g16⟩
    · refine c_cond_f rfl ?_
      refine c_skip ?_
      refine go_blk ?_
      refine go_code ?_
      refine c_region ?_
      refine AOps.st 18 rfl rfl rfl (op_add rfl rfl rfl (IntWalk.i64_in _ (by omega)) ?_)
      refine AOps.st 8 rfl rfl rfl (op_move rfl rfl ?_)
      refine AOps.nil ?_
      refine go_lp ?_
      exact ⟨i + 1, ⟨by omega, by rw [← hu, firstQ_no g16]⟩, by simp; omega, (by repeat' (first | exact SLe.nil _ | refine SLe.cons rfl ?_ ?_ | exact Le.refl _ | exact Le.own _ _ _ | exact Le.nil _)), (by first | exact MLe.none _ | exact MLe.refl _ | (repeat' (first | exact MLe.nil | exact MLe.refl _ | refine MLe.cons _ ?_ | refine MLe.drop _ ?_)))⟩
    · refine c_cond_t rfl ?_
      refine c_seq ?_
      refine c_region ?_
      refine AOps.st 17 rfl rfl rfl (op_move rfl rfl ?_)
      refine AOps.st 4 rfl rfl rfl (op_assign rfl rfl ?_)
      refine AOps.nil ?_
      refine go_code ?_
      refine c_ret ?_
      exact out_tmp rfl rfl (Le.refl _) (by first | exact MLe.none _ | exact MLe.refl _ | (repeat' (first | exact MLe.nil | exact MLe.refl _ | refine MLe.cons _ ?_ | refine MLe.drop _ ?_))) ⟨by rw [← hu, firstQ_yes g16], rfl⟩
set_option maxHeartbeats 4000000 in
set_option maxRecDepth 100000 in
theorem ConF_Is (p : Is → Prop) (g : FuncId) (fs cs : List AV) (l : List Is) (hg : ∀ x ∈ l, BCall Try.prog g (fs ++ [(.agg (x).cells)] ++ cs) (p x)) : BCall Try.prog 39 [.seq 7 (Is.cellss l), .clo (.func g) fs cs] (∃ x ∈ l, p x) := by
  have H := IdxF_Is p g fs cs l hg
  have hf := firstQ_iff p l 0
  refine ACall.enter Try.func39 rfl (by kernel_rfl) rfl (Nat.le_of_ble_eq_true rfl) ?_
  refine c_start ?_
  refine c_seq ?_
  refine c_region ?_
  refine AOps.st 4 rfl rfl rfl (op_assign rfl rfl ?_)
  refine AOps.nil ?_
  refine go_code ?_
  refine c_seq ?_
  refine c_region ?_
  refine AOps.st 5 rfl rfl rfl (op_move rfl rfl ?_)
  refine AOps.st 6 rfl rfl rfl (op_move rfl rfl ?_)
  refine AOps.st 7 rfl rfl rfl (op_callp (xs := [.tmp 5, .tmp 6]) rfl rfl (H) (by first | exact Les.refl _ | (repeat' (first | exact Les.refl _ | refine Les.cons ?_ ?_ | exact Le.refl _ | exact Le.own _ _ _ | exact Le.nil _ | refine Le.agg ?_))) ?_)
  refine AOps.st 8 rfl rfl rfl (op_geq rfl rfl rfl ?_); intro c8 h8
  refine AOps.st 4 rfl rfl rfl (op_assign rfl rfl ?_)
  refine AOps.nil ?_
  refine go_code ?_
  refine c_ret ?_
  exact out_tmp rfl rfl (Le.refl _) (by first | exact MLe.none _ | exact MLe.refl _ | (repeat' (first | exact MLe.nil | exact MLe.refl _ | refine MLe.cons _ ?_ | refine MLe.drop _ ?_))) ⟨⟨_, h8.trans hf, rfl⟩, rfl⟩
set_option maxHeartbeats 4000000 in
set_option maxRecDepth 100000 in
theorem Evn_Is (p : Prop) (g : FuncId) (fs cs : List AV) (x : Is) (hg : BCall Try.prog g (fs ++ [(.agg (x).cells)] ++ cs) p) : BCall Try.prog 40 [(.agg (x).cells), .cptr [.clo (.func g) fs cs]] (¬ p) := by
  obtain ⟨yop, ya, yb, yn, yar, yfs, ycp⟩ := x
  refine ACall.enter Try.func40 rfl (by kernel_rfl) rfl (Nat.le_of_ble_eq_true rfl) ?_
  refine c_start ?_
  refine c_seq ?_
  refine c_region ?_
  refine AOps.st 2 rfl rfl rfl (op_boxe (cs' := [_, _, _, _, _, _, _]) rfl rfl rfl rfl ?_); intro b2
  refine AOps.st 3 rfl rfl rfl (op_assign rfl rfl ?_)
  refine AOps.nil ?_
  refine go_code ?_
  refine c_seq ?_
  refine c_region ?_
  first | (refine AOps.st 4 rfl rfl rfl (op_load_m1 (i := 0) rfl ta_55 rfl rfl rfl ?_)) | (refine AOps.st 4 rfl rfl rfl (op_load_m1 (i := 1) rfl ta_55 rfl rfl rfl ?_)) | (refine AOps.st 4 rfl rfl rfl (op_load_m1 (i := 2) rfl ta_55 rfl rfl rfl ?_)) | (refine AOps.st 4 rfl rfl rfl (op_load_m1 (i := 3) rfl ta_55 rfl rfl rfl ?_)) | (refine AOps.st 4 rfl rfl rfl (op_load_m1 (i := 4) rfl ta_55 rfl rfl rfl ?_)) | (refine AOps.st 4 rfl rfl rfl (op_load_m1 (i := 5) rfl ta_55 rfl rfl rfl ?_)) | (refine AOps.st 4 rfl rfl rfl (op_load_m1 (i := 6) rfl ta_55 rfl rfl rfl ?_)) | (refine AOps.st 4 rfl rfl rfl (op_load_m1 (i := 7) rfl ta_55 rfl rfl rfl ?_)) | (refine AOps.st 4 rfl rfl rfl (op_load_m1 (i := 8) rfl ta_55 rfl rfl rfl ?_)) | (refine AOps.st 4 rfl rfl rfl (op_load_m1 (i := 9) rfl ta_55 rfl rfl rfl ?_)) | (refine AOps.st 4 rfl rfl rfl (op_load_c1 rfl ta_55 rfl rfl ?_))
  refine AOps.st 5 rfl rfl rfl (op_load_m (cs' := [_, _, _, _, _, _, _]) (i := 0) rfl ta_46 rfl rfl rfl rfl ?_)
  refine AOps.st 6 rfl rfl rfl (op_callvb (xs := [.tmp 5]) rfl rfl rfl (hg) (by first | exact Les.refl _ | (repeat' (first | exact Les.refl _ | refine Les.cons ?_ ?_ | exact Le.refl _ | exact Le.own _ _ _ | exact Le.nil _ | refine Le.agg ?_))) ?_); intro c6 h6
  refine AOps.st 7 rfl rfl rfl (op_notc rfl rfl ?_); intro c7 h7
  try replace h7 := nott h7 h6
  refine AOps.st 3 rfl rfl rfl (op_assign rfl rfl ?_)
  refine AOps.nil ?_
  refine go_code ?_
  refine c_ret ?_
  exact out_tmp rfl rfl (Le.refl _) (by first | exact MLe.none _ | exact MLe.refl _ | (repeat' (first | exact MLe.nil | exact MLe.refl _ | refine MLe.cons _ ?_ | refine MLe.drop _ ?_))) ⟨⟨_, h7, rfl⟩, rfl⟩
set_option maxHeartbeats 4000000 in
set_option maxRecDepth 100000 in
theorem Ev_Is (p : Is → Prop) (g : FuncId) (fs cs : List AV) (l : List Is) (hg : ∀ x ∈ l, BCall Try.prog g (fs ++ [(.agg (x).cells)] ++ cs) (p x)) : BCall Try.prog 17 [.seq 7 (Is.cellss l), .clo (.func g) fs cs] (∀ x ∈ l, p x) := by
  have H := ConF_Is (fun x => ¬ p x) 40 [] [.cptr [.clo (.func g) fs cs]] l (fun x hx => Evn_Is (p x) g fs cs x (hg x hx))
  refine ACall.enter Try.func17 rfl (by kernel_rfl) rfl (Nat.le_of_ble_eq_true rfl) ?_
  refine c_start ?_
  refine c_seq ?_
  refine c_region ?_
  refine AOps.st 3 rfl rfl rfl (op_boxc (cs' := [_]) rfl rfl rfl rfl ?_)
  refine AOps.st 4 rfl rfl rfl (op_assign rfl rfl ?_)
  refine AOps.nil ?_
  refine go_code ?_
  refine c_seq ?_
  refine c_region ?_
  refine AOps.st 5 rfl rfl rfl (op_move rfl rfl ?_)
  refine AOps.st 6 rfl rfl rfl (op_makeFunc (fs := []) (cs := [.tmp 3]) rfl rfl rfl ?_)
  refine AOps.st 7 rfl rfl rfl (op_callb (xs := [.tmp 5, .tmp 6]) rfl rfl (H) (by first | exact Les.refl _ | (repeat' (first | exact Les.refl _ | refine Les.cons ?_ ?_ | exact Le.refl _ | exact Le.own _ _ _ | exact Le.nil _ | refine Le.agg ?_))) ?_); intro c7 h7
  refine AOps.st 8 rfl rfl rfl (op_notc rfl rfl ?_); intro c8 h8
  try replace h8 := nott h8 h7
  refine AOps.st 4 rfl rfl rfl (op_assign rfl rfl ?_)
  refine AOps.nil ?_
  refine go_code ?_
  refine c_ret ?_
  exact out_tmp rfl rfl (Le.refl _) (by first | exact MLe.none _ | exact MLe.refl _ | (repeat' (first | exact MLe.nil | exact MLe.refl _ | refine MLe.cons _ ?_ | refine MLe.drop _ ?_))) ⟨⟨_, h8.trans (not_ex p l), rfl⟩, rfl⟩
end Go.Proofs.Ytadhakcmfkghbaa
