/- A machine's code of an operation: each of its arguments, and the operation. -/
import Derived.Test.YtflkdojahfmbnaaB23c
namespace Go.Proofs.Ytflkdojahfmbnaa
open Go.RowKit
theorem op_mcallv {P : Program} {al : Sl} {M : Mem} {K : AV → Mem → Prop} {o : Oper} {x : Operand} {f : FuncId} {fs cs : List AV} {xs : List Operand} {ts : Array TypeId} {vs vs' : List AV} (i : Nat) {r r' : Res} {v : AV} (ho : o.op = .call { callee := .value x, args := xs.toArray, argTypes := ts }) (hf : al.ev x = some (.clo (.func f) fs cs)) (hx : xs.mapM al.ev = some vs) (hm : M[i]? = some r) (hc : MCall P f vs' r v r') (hl : Les (fs ++ vs ++ cs) vs') (q : K v (M.set i r')) : OpT P o al M K := by
  refine OpT.permd (op_callvat (K := fun u M' => u = v ∧ M' = r' :: M.eraseIdx i) [i] ho hf hx (pick_one hm) hc hl ?_) ?_
  · rintro u M' ⟨rfl, rfl⟩; exact ⟨rfl, rfl⟩
  · rintro u M' ⟨rfl, rfl⟩; exact ⟨_, set_perm hm, q⟩
def alt {α : Type} (x y : α) : Nat → α
  | 0 => x
  | _ + 1 => y
set_option maxHeartbeats 4000000 in
set_option maxRecDepth 100000 in
theorem each_c (b : Nat) (m m' : List AV) (e : AV) (g : FuncId) (fs cs : List AV) (k : Int) (s : ByteArray) (H : MCall Try.prog g (fs ++ [.ptr b 0, e] ++ cs) (.loc b m) (.agg (vlC k s)) (.loc b m')) :
    MCall Try.prog 35 [.seq 1 [[.clo (.func g) fs cs]], .ptr b 0, e] (.loc b m) (.seq 6 [vlC k s]) (.loc b m') := by
  obtain ⟨l, hl⟩ : ∃ l : List (List AV), [[AV.clo (.func g) fs cs]] = l := ⟨_, rfl⟩
  have hll : l.length = 1 := by rw [← hl]; rfl
  have hl0 : l[0]? = some [.clo (.func g) fs cs] := by rw [← hl]; rfl
  rw [hl]
  refine ACall.enter Try.func35 rfl (by kernel_rfl) rfl (Nat.le_of_ble_eq_true rfl) ?_
  refine c_start ?_
  refine c_seq ?_
  refine c_region ?_
  refine AOps.st 6 rfl rfl rfl (op_assign rfl rfl ?_)
  refine AOps.nil ?_
  refine go_code ?_
  refine c_seq ?_
  refine c_region ?_
  refine AOps.st 10 rfl rfl rfl (op_move rfl rfl ?_)
  first | (refine AOps.st 11 rfl rfl rfl (op_len rfl tu_83 rfl (.seq _ _) (fun n11 => ?_))) | (refine AOps.st 11 rfl rfl rfl (op_len rfl tu_83 rfl (.own _ _ _) (fun n11 => ?_))) | (refine AOps.st 11 rfl rfl rfl (op_len rfl tu_83 rfl (.nil 0) (fun n11 => ?_))) | (refine AOps.st 11 rfl rfl rfl (op_len_arr rfl tu_83 rfl ?_))
  refine AOps.st 12 rfl rfl rfl (op_makeSlice (n := 1) el_65 rfl rfl (by omega) (by omega) rfl ?_); intro b12
  refine AOps.st 7 rfl rfl rfl (op_assign rfl rfl ?_)
  refine AOps.nil ?_
  refine go_code ?_
  refine c_seq ?_
  refine c_seq ?_
  refine c_region ?_
  refine AOps.st 13 rfl rfl rfl (op_move rfl rfl ?_)
  first | (refine AOps.st 14 rfl rfl rfl (op_len rfl tu_83 rfl (.seq _ _) (fun n14 => ?_))) | (refine AOps.st 14 rfl rfl rfl (op_len rfl tu_83 rfl (.own _ _ _) (fun n14 => ?_))) | (refine AOps.st 14 rfl rfl rfl (op_len rfl tu_83 rfl (.nil 0) (fun n14 => ?_))) | (refine AOps.st 14 rfl rfl rfl (op_len_arr rfl tu_83 rfl ?_))
  refine AOps.st 15 rfl rfl rfl (op_move rfl rfl ?_)
  refine AOps.nil ?_
  refine go_code ?_
  refine c_block ?_
  apply c_loopk [0, 3, 4, 5, 8, 9, 10, 11, 12, 15, 16, 17, 18, 19, 20, 21, 22, 23, 24, 25, 26, 27] (σ := Nat) (fun zz => match zz with | i => [(15, .val (.int .i64 i))]) (fun zz => match zz with | i => [.loc b12 [alt (vlC 0 ⟨#[]⟩) (vlC k s) i].flatten, .loc b (alt m m' i)]) (fun zz => match zz with | i => i ≤ 1) (fun zz => match zz with | i => 1 - i) (0)
  · repeat' (first | exact Drops.nil | apply Drops.keep rfl | apply Drops.skip rfl)
  · exact Nat.zero_le _
  · exact (by repeat' (first | exact SLe.nil _ | refine SLe.cons rfl ?_ ?_ | exact Le.refl _ | exact Le.own _ _ _ | exact Le.nil _))
  · exact (by first | exact MLe.none _ | exact MLe.refl _ | (repeat' (first | exact MLe.nil | exact MLe.refl _ | refine MLe.cons _ ?_ | refine MLe.drop _ ?_)))
  rintro i hI
  try dsimp only [List.cons_append, List.nil_append] at hI ⊢
  refine c_seq ?_
  refine c_region ?_
  refine AOps.st 16 rfl rfl rfl (op_lss rfl rfl rfl ?_); intro c16 h16
  refine AOps.nil ?_
  refine go_code ?_
  refine c_seq ?_
  rcases bool_split h16 with ⟨rfl, g16⟩ | ⟨rfl, g16⟩
  · refine c_cond_f rfl ?_
    refine c_exit ?_
    refine x_code ?_
    refine x_lp ?_
    refine x_here ?_
    refine go_code ?_
    refine c_seq ?_
    obtain rfl : i = 1 := by omega
    simp only [alt]
    refine c_freeze (i := 0) (k := 1) (al' := [(7, .seq 6 [vlC k s])]) (es := [vlC k s]) rfl rfl (fun e he => by simp at he; subst he; rfl) rfl (by omega) (Frz.arr rfl Frz.nil) ?_
    refine c_region ?_
    refine AOps.st 28 rfl rfl rfl (op_move rfl rfl ?_)
    refine AOps.st 6 rfl rfl rfl (op_assign rfl rfl ?_)
    refine AOps.nil ?_
    refine go_code ?_
    refine c_ret ?_
    exact out_tmp rfl rfl (Le.refl _) (by first | exact MLe.none _ | exact MLe.refl _ | (repeat' (first | exact MLe.nil | exact MLe.refl _ | refine MLe.cons _ ?_ | refine MLe.drop _ ?_))) ⟨rfl, rfl⟩
  · refine c_cond_t rfl ?_
    refine c_skip ?_
    refine go_code ?_
    refine c_seq ?_
    refine c_block ?_
    refine c_seq ?_
    obtain rfl : i = 0 := by omega
    simp only [alt]
    refine c_region ?_
    refine AOps.st 17 rfl rfl rfl (op_move rfl rfl ?_)
    first | (refine AOps.st 18 rfl rfl rfl (op_index rfl te_83 rfl (.seq _ _) rfl rfl (hl0) ?_)) | (refine AOps.st 18 rfl rfl rfl (op_index (i := 0) rfl te_83 rfl (.seq _ _) rfl rfl (by first | rfl | assumption) ?_)) | (refine AOps.st 18 rfl rfl rfl (op_index (i := 1) rfl te_83 rfl (.seq _ _) rfl rfl (by first | rfl | assumption) ?_)) | (refine AOps.st 18 rfl rfl rfl (op_index rfl te_83 rfl (.own _ _ _) rfl rfl (hl0) ?_)) | (refine AOps.st 18 rfl rfl rfl (op_index (i := 0) rfl te_83 rfl (.own _ _ _) rfl rfl (by first | rfl | assumption) ?_)) | (refine AOps.st 18 rfl rfl rfl (op_index (i := 1) rfl te_83 rfl (.own _ _ _) rfl rfl (by first | rfl | assumption) ?_)) | (refine AOps.st 18 rfl rfl rfl (op_index (i := 0) rfl te_83 rfl (.seq _ _) rfl (by first | rfl | omega) (hl0) ?_)) | (refine AOps.st 18 rfl rfl rfl (op_index (i := 0) rfl te_83 rfl (.own _ _ _) rfl (by first | rfl | omega) (hl0) ?_)) | (refine AOps.st 18 rfl rfl rfl (op_index_arr rfl te_83 rfl rfl rfl (by omega) ?_))
    first | (refine AOps.st 19 rfl rfl rfl (op_load_m1 (i := 0) rfl ta_64 rfl rfl rfl ?_)) | (refine AOps.st 19 rfl rfl rfl (op_load_m1 (i := 1) rfl ta_64 rfl rfl rfl ?_)) | (refine AOps.st 19 rfl rfl rfl (op_load_m1 (i := 2) rfl ta_64 rfl rfl rfl ?_)) | (refine AOps.st 19 rfl rfl rfl (op_load_m1 (i := 3) rfl ta_64 rfl rfl rfl ?_)) | (refine AOps.st 19 rfl rfl rfl (op_load_m1 (i := 4) rfl ta_64 rfl rfl rfl ?_)) | (refine AOps.st 19 rfl rfl rfl (op_load_m1 (i := 5) rfl ta_64 rfl rfl rfl ?_)) | (refine AOps.st 19 rfl rfl rfl (op_load_m1 (i := 6) rfl ta_64 rfl rfl rfl ?_)) | (refine AOps.st 19 rfl rfl rfl (op_load_m1 (i := 7) rfl ta_64 rfl rfl rfl ?_)) | (refine AOps.st 19 rfl rfl rfl (op_load_m1 (i := 8) rfl ta_64 rfl rfl rfl ?_)) | (refine AOps.st 19 rfl rfl rfl (op_load_m1 (i := 9) rfl ta_64 rfl rfl rfl ?_)) | (refine AOps.st 19 rfl rfl rfl (op_load_c1 rfl ta_64 rfl rfl ?_))
    refine AOps.st 8 rfl rfl rfl (op_assign rfl rfl ?_)
    refine AOps.st 9 rfl rfl rfl (op_assign rfl rfl ?_)
    refine AOps.nil ?_
    refine go_code ?_
    refine c_region ?_
    refine AOps.st 20 rfl rfl rfl (op_move rfl rfl ?_)
    refine AOps.st 21 rfl rfl rfl (op_move rfl rfl ?_)
    refine AOps.st 22 rfl rfl rfl (op_move rfl rfl ?_)
    refine AOps.st 23 rfl rfl rfl (op_move rfl rfl ?_)
    refine AOps.st 24 rfl rfl rfl (op_move rfl rfl ?_)
    refine AOps.st 25 rfl rfl rfl (op_mcallv (i := 1) (xs := [.tmp 23, .tmp 24])  rfl rfl rfl rfl H (by first | exact Les.refl _ | (repeat' (first | exact Les.refl _ | refine Les.cons ?_ ?_ | exact Le.refl _ | exact Le.own _ _ _ | exact Le.nil _ | refine Le.agg ?_))) ?_)
    first | (refine AOps.st 26 rfl rfl rfl (op_index rfl te_65 rfl (.seq _ _) rfl rfl (by assumption) ?_)) | (refine AOps.st 26 rfl rfl rfl (op_index (i := 0) rfl te_65 rfl (.seq _ _) rfl rfl (by first | rfl | assumption) ?_)) | (refine AOps.st 26 rfl rfl rfl (op_index (i := 1) rfl te_65 rfl (.seq _ _) rfl rfl (by first | rfl | assumption) ?_)) | (refine AOps.st 26 rfl rfl rfl (op_index rfl te_65 rfl (.own _ _ _) rfl rfl (by assumption) ?_)) | (refine AOps.st 26 rfl rfl rfl (op_index (i := 0) rfl te_65 rfl (.own _ _ _) rfl rfl (by first | rfl | assumption) ?_)) | (refine AOps.st 26 rfl rfl rfl (op_index (i := 1) rfl te_65 rfl (.own _ _ _) rfl rfl (by first | rfl | assumption) ?_)) | (refine AOps.st 26 rfl rfl rfl (op_index_arr rfl te_65 rfl rfl rfl (by omega) ?_))
    refine AOps.st0 rfl rfl (op_store_row (k := 0) rfl ts_69 rfl rfl rfl rfl rfl ((fun e he => by simp at he; subst he; rfl)) (by decide) ?_)
    refine AOps.nil ?_
    refine go_blk ?_
    refine go_code ?_
    refine c_region ?_
    first | (refine AOps.st 27 rfl rfl rfl (op_add rfl rfl rfl (IntWalk.i64_in _ (by omega)) ?_)) | (refine AOps.st 27 rfl rfl rfl (op_add rfl rfl rfl rfl ?_))
    refine AOps.st 15 rfl rfl rfl (op_move rfl rfl ?_)
    refine AOps.nil ?_
    refine go_lp ?_
    exact ⟨1, by decide, by decide, (by repeat' (first | exact SLe.nil _ | refine SLe.cons rfl ?_ ?_ | exact Le.refl _ | exact Le.own _ _ _ | exact Le.nil _)), (by first | exact MLe.none _ | exact MLe.refl _ | (repeat' (first | exact MLe.nil | exact MLe.refl _ | refine MLe.cons _ ?_ | refine MLe.drop _ ?_)))⟩
def exC (k : Int) (nm : ByteArray) (n : Int) (kids : AV) : List AV := [.val (.int .i64 k), .val (.string nm), .val (.int .i64 n), .val (.int .i64 0), .val (.string ⟨#[]⟩), .val (.int .i64 0), .val (.slice none 0 0), .val (.slice none 0 0), kids, .val (.slice none 0 0), .val (.slice none 0 0)]
set_option maxHeartbeats 4000000 in
set_option maxRecDepth 100000 in
theorem put_c (b : Nat) (o i : AV) (fuel nest : Int) (s : ByteArray) (e kids : AV) (g : FuncId) (fs cs : List AV) (steps' : Int) (m : List AV)
    (H : MCall Try.prog g (fs ++ [.ptr b 0, e] ++ cs) (.loc b m) (.agg (vlC 1 s)) (.loc b (mcC o i (.val (.slice none 0 0)) fuel steps' nest))) :
    MCall Try.prog 40 [.ptr b 0, e, .cptr (exC 9 ⟨#[]⟩ 13 kids), .cptr [.seq 1 [[.clo (.func g) fs cs]]]] (.loc b m) (.agg (vlC 2 kUnit)) (.loc b (mcC o i (.seq 1 [[.val (.string s)]]) fuel steps' nest)) := by
  have HE := each_c b _ _ e g fs cs 1 s H
  have HP := prim_c b o i fuel steps' nest s
  unfold exC
  refine ACall.enter Try.func40 rfl (by kernel_rfl) rfl (Nat.le_of_ble_eq_true rfl) ?_
  refine c_start ?_
  refine c_seq ?_
  refine c_region ?_
  refine AOps.st 6 rfl rfl rfl (op_alloce (cs' := [_, _, _, _, _, _]) rfl tz_69 rfl rfl ?_); intro b6
  refine AOps.nil ?_
  refine go_code ?_
  refine c_seq ?_
  refine c_drawnE [0, 1, 2, 3, 4, 5, 6, 7, 8] [6, 7, 8] [[], [], [1], [], [], [], [3, 4, 5], [0, 1, 2, 3, 4, 5, 6], [0, 1, 2, 3, 4, 5, 6, 7]] tmix rfl ?_
  refine EOps.d 7 (none) (i := 0) rfl rfl rfl rfl rfl (op_move rfl rfl ⟨rfl, rfl⟩) ?_
  first | (refine EOps.d 8 (none) (i := 1) rfl rfl rfl rfl rfl (op_fieldAddr_m rfl tf_36_2 rfl ⟨rfl, rfl⟩) ?_) | (refine EOps.d 8 (none) (i := 1) rfl rfl rfl rfl rfl (op_fieldAddr_c rfl tf_36_2 rfl rfl ⟨rfl, rfl⟩) ?_)
  first | (refine EOps.d 9 (some 0) (i := 2) rfl rfl rfl rfl rfl (op_load_m1 (i := 0) rfl ta_2 rfl rfl rfl ⟨rfl, rfl⟩) ?_) | (refine EOps.d 9 (some 1) (i := 2) rfl rfl rfl rfl rfl (op_load_m1 (i := 0) rfl ta_2 rfl rfl rfl ⟨rfl, rfl⟩) ?_) | (refine EOps.d 9 (some 2) (i := 2) rfl rfl rfl rfl rfl (op_load_m1 (i := 0) rfl ta_2 rfl rfl rfl ⟨rfl, rfl⟩) ?_) | (refine EOps.d 9 (some 3) (i := 2) rfl rfl rfl rfl rfl (op_load_m1 (i := 0) rfl ta_2 rfl rfl rfl ⟨rfl, rfl⟩) ?_) | (refine EOps.d 9 (some 4) (i := 2) rfl rfl rfl rfl rfl (op_load_m1 (i := 0) rfl ta_2 rfl rfl rfl ⟨rfl, rfl⟩) ?_) | (refine EOps.d 9 (some 5) (i := 2) rfl rfl rfl rfl rfl (op_load_m1 (i := 0) rfl ta_2 rfl rfl rfl ⟨rfl, rfl⟩) ?_) | (refine EOps.d 9 (some 6) (i := 2) rfl rfl rfl rfl rfl (op_load_m1 (i := 0) rfl ta_2 rfl rfl rfl ⟨rfl, rfl⟩) ?_) | (refine EOps.d 9 (some 7) (i := 2) rfl rfl rfl rfl rfl (op_load_m1 (i := 0) rfl ta_2 rfl rfl rfl ⟨rfl, rfl⟩) ?_) | (refine EOps.d 9 (some 8) (i := 2) rfl rfl rfl rfl rfl (op_load_m1 (i := 0) rfl ta_2 rfl rfl rfl ⟨rfl, rfl⟩) ?_) | (refine EOps.d 9 (some 9) (i := 2) rfl rfl rfl rfl rfl (op_load_m1 (i := 0) rfl ta_2 rfl rfl rfl ⟨rfl, rfl⟩) ?_) | (refine EOps.d 9 (none) (i := 2) rfl rfl rfl rfl rfl (op_load_c1 rfl ta_2 rfl rfl ⟨rfl, rfl⟩) ?_)
  first | (refine EOps.d 10 (some 0) (i := 3) rfl rfl rfl rfl rfl (op_load_m1 (i := 0) rfl ta_83 rfl rfl rfl ⟨rfl, rfl⟩) ?_) | (refine EOps.d 10 (some 1) (i := 3) rfl rfl rfl rfl rfl (op_load_m1 (i := 0) rfl ta_83 rfl rfl rfl ⟨rfl, rfl⟩) ?_) | (refine EOps.d 10 (some 2) (i := 3) rfl rfl rfl rfl rfl (op_load_m1 (i := 0) rfl ta_83 rfl rfl rfl ⟨rfl, rfl⟩) ?_) | (refine EOps.d 10 (some 3) (i := 3) rfl rfl rfl rfl rfl (op_load_m1 (i := 0) rfl ta_83 rfl rfl rfl ⟨rfl, rfl⟩) ?_) | (refine EOps.d 10 (some 4) (i := 3) rfl rfl rfl rfl rfl (op_load_m1 (i := 0) rfl ta_83 rfl rfl rfl ⟨rfl, rfl⟩) ?_) | (refine EOps.d 10 (some 5) (i := 3) rfl rfl rfl rfl rfl (op_load_m1 (i := 0) rfl ta_83 rfl rfl rfl ⟨rfl, rfl⟩) ?_) | (refine EOps.d 10 (some 6) (i := 3) rfl rfl rfl rfl rfl (op_load_m1 (i := 0) rfl ta_83 rfl rfl rfl ⟨rfl, rfl⟩) ?_) | (refine EOps.d 10 (some 7) (i := 3) rfl rfl rfl rfl rfl (op_load_m1 (i := 0) rfl ta_83 rfl rfl rfl ⟨rfl, rfl⟩) ?_) | (refine EOps.d 10 (some 8) (i := 3) rfl rfl rfl rfl rfl (op_load_m1 (i := 0) rfl ta_83 rfl rfl rfl ⟨rfl, rfl⟩) ?_) | (refine EOps.d 10 (some 9) (i := 3) rfl rfl rfl rfl rfl (op_load_m1 (i := 0) rfl ta_83 rfl rfl rfl ⟨rfl, rfl⟩) ?_) | (refine EOps.d 10 (none) (i := 3) rfl rfl rfl rfl rfl (op_load_c1 rfl ta_83 rfl rfl ⟨rfl, rfl⟩) ?_)
  refine EOps.d 11 (none) (i := 4) rfl rfl rfl rfl rfl (op_move rfl rfl ⟨rfl, rfl⟩) ?_
  refine EOps.d 12 (none) (i := 5) rfl rfl rfl rfl rfl (op_move rfl rfl ⟨rfl, rfl⟩) ?_
  refine EOps.w 1 (i := 6) rfl rfl rfl rfl rfl (op_mcall (xs := [.tmp 10, .tmp 11, .tmp 12]) (i := 0) rfl rfl rfl (HE) (by first | exact Les.refl _ | (repeat' (first | exact Les.refl _ | refine Les.cons ?_ ?_ | exact Le.refl _ | exact Le.own _ _ _ | exact Le.nil _ | refine Le.agg ?_))) ⟨_, rfl, ?_⟩)
  refine EOps.w 1 (i := 7) rfl rfl rfl rfl rfl (op_mcall (xs := [.tmp 7, .tmp 9, .tmp 13]) (i := 0) rfl rfl rfl (HP) (by first | exact Les.refl _ | (repeat' (first | exact Les.refl _ | refine Les.cons ?_ ?_ | exact Le.refl _ | exact Le.own _ _ _ | exact Le.nil _ | refine Le.agg ?_))) ⟨_, rfl, ?_⟩)
  first | (refine EOps.w 0 (i := 8) rfl rfl rfl rfl rfl (op_store (cs' := [_, _, _, _, _, _]) (i := 0) rfl ts_69 rfl rfl rfl rfl rfl (Nat.le_of_ble_eq_true rfl) rfl ⟨_, rfl, ?_⟩)) | (refine EOps.w 1 (i := 8) rfl rfl rfl rfl rfl (op_store (cs' := [_, _, _, _, _, _]) (i := 0) rfl ts_69 rfl rfl rfl rfl rfl (Nat.le_of_ble_eq_true rfl) rfl ⟨_, rfl, ?_⟩)) | (refine EOps.w 2 (i := 8) rfl rfl rfl rfl rfl (op_store (cs' := [_, _, _, _, _, _]) (i := 0) rfl ts_69 rfl rfl rfl rfl rfl (Nat.le_of_ble_eq_true rfl) rfl ⟨_, rfl, ?_⟩)) | (refine EOps.w 3 (i := 8) rfl rfl rfl rfl rfl (op_store (cs' := [_, _, _, _, _, _]) (i := 0) rfl ts_69 rfl rfl rfl rfl rfl (Nat.le_of_ble_eq_true rfl) rfl ⟨_, rfl, ?_⟩)) | (refine EOps.w 4 (i := 8) rfl rfl rfl rfl rfl (op_store (cs' := [_, _, _, _, _, _]) (i := 0) rfl ts_69 rfl rfl rfl rfl rfl (Nat.le_of_ble_eq_true rfl) rfl ⟨_, rfl, ?_⟩)) | (refine EOps.w 5 (i := 8) rfl rfl rfl rfl rfl (op_store (cs' := [_, _, _, _, _, _]) (i := 0) rfl ts_69 rfl rfl rfl rfl rfl (Nat.le_of_ble_eq_true rfl) rfl ⟨_, rfl, ?_⟩)) | (refine EOps.w 6 (i := 8) rfl rfl rfl rfl rfl (op_store (cs' := [_, _, _, _, _, _]) (i := 0) rfl ts_69 rfl rfl rfl rfl rfl (Nat.le_of_ble_eq_true rfl) rfl ⟨_, rfl, ?_⟩)) | (refine EOps.w 7 (i := 8) rfl rfl rfl rfl rfl (op_store (cs' := [_, _, _, _, _, _]) (i := 0) rfl ts_69 rfl rfl rfl rfl rfl (Nat.le_of_ble_eq_true rfl) rfl ⟨_, rfl, ?_⟩)) | (refine EOps.w 8 (i := 8) rfl rfl rfl rfl rfl (op_store (cs' := [_, _, _, _, _, _]) (i := 0) rfl ts_69 rfl rfl rfl rfl rfl (Nat.le_of_ble_eq_true rfl) rfl ⟨_, rfl, ?_⟩)) | (refine EOps.w 9 (i := 8) rfl rfl rfl rfl rfl (op_store (cs' := [_, _, _, _, _, _]) (i := 0) rfl ts_69 rfl rfl rfl rfl rfl (Nat.le_of_ble_eq_true rfl) rfl ⟨_, rfl, ?_⟩))
  show AGo _ _ _ _ _ _ _
  refine go_code ?_
  refine c_ret ?_
  exact out_cell (i := 0) rfl rfl rfl ta_69 rfl (Le.refl _) (by first | exact MLe.none _ | exact MLe.refl _ | (repeat' (first | exact MLe.nil | exact MLe.refl _ | refine MLe.cons _ ?_ | refine MLe.drop _ ?_))) ⟨rfl, rfl⟩
end Go.Proofs.Ytflkdojahfmbnaa
