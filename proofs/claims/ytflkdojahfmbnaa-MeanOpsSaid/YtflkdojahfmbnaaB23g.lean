/- The machine runs the example's one bind. -/
import Derived.Test.YtflkdojahfmbnaaB23f
namespace Go.Proofs.Ytflkdojahfmbnaa
open Go.RowKit
def ouC (c : AV) (r d : Bool) (v : List AV) : List AV := c :: .val (.bool r) :: .val (.bool d) :: v
theorem ACodeI.seqr {P : Program} {n : Nat} {al : Sl} {M : Mem} {Q : Exit → Sl → Mem → Prop} {id : Nat} {l : List Oper} {y : Code} (h : AOps P n l.toArray (fun al' M' => ACodeI P n y Q al' M') l al M) : ACodeI P n (.seq (.region id l.toArray false) y) Q al M := by
  intro B F Mf a w hi hs
  refine wpIn_seq (wpIn_region_lit ?_)
  refine wpR_norm (fun e a w h => h.1) (fun a' w' h => ?_) _ _ _ (h B F Mf a w hi hs none)
  obtain ⟨_, F', al', M', h1, h2, h3, h4, h5, h6⟩ := h
  refine Code.wpIn_mono (fun e a'' w'' hp => ?_) (h1 B F' Mf a' w' h3 h4)
  obtain ⟨d, hd, hp⟩ := hp
  refine ⟨d, hd, PostD.next (Ds := []) h2 h6 ?_⟩
  rw [← h5]; exact hp
theorem out_cell1 {P : Program} {fn : Func} {R : AV → Mem → Prop} {al : Sl} {M M' : Mem} {t T b i : Nat} {c v' : AV} {cs : List AV} (hr : fn.results = #[.cell t T]) (hv : al.lookup t = some (.ptr b 0)) (hm0 : M[i]? = some (.loc b cs)) (ht : tyAgg P T = some none) (hc : cs[0]? = some c) (hl : Le c v') (hm : MLe M M') (h : R v' M') : Out P fn R .ret al M :=
  ⟨[c], v', M', by rw [hr]; exact .cons ⟨b, 0, i, cs, hv, hm0, .inr ⟨ht, hc⟩⟩ .nil, hl, hm, h⟩
set_option maxHeartbeats 4000000 in
set_option maxRecDepth 100000 in
theorem run_c (b bo : Nat) (i : AV) (s : ByteArray) : ACall Try.prog 21 [.ptr b 0] [.loc b (mcC (.seq 1 [[.ptr bo 0]]) i (.val (.slice none 0 0)) 9 0 0), .loc bo (ouC (putF s) false false (vlC 0 ⟨#[]⟩))] (fun v M' => v = .val (.int .i64 0) ∧ M' = [.loc b (mcC (.seq 1 [[.ptr bo 0]]) i (.seq 1 [[.val (.string s)]]) 9 2 0)]) := by
  have HR := putRun_c b (.seq 1 [[.ptr bo 0]]) i (.val (.pointer none)) s
  refine ACall.enterI Try.func21 rfl (by kernel_rfl) rfl (Nat.le_of_ble_eq_true rfl) ?_
  refine ACodeI.seqr ?_
  refine AOps.st 2 rfl rfl rfl (op_alloce (cs' := [_]) rfl tz_23 rfl rfl ?_); intro b2
  refine AOps.nil ?_
  refine ACodeI.seq (ACodeI.region ?_)
  refine AOpsI.step rfl rfl (op_makeFunc (fs := []) (cs := [.tmp 2]) rfl rfl rfl ?_)
  refine AOpsI.defer rfl rfl rfl rfl idle_c ?_
  refine AOps.nil ?_
  show ACode _ _ _ _ _ _ _
  refine c_start ?_
  refine c_seq ?_
  refine c_seq ?_
  refine c_region ?_
  refine AOps.st 6 rfl rfl rfl (op_move rfl rfl ?_)
  first | (refine AOps.st 7 rfl rfl rfl (op_nilCheck_m rfl rfl ?_)) | (refine AOps.st 7 rfl rfl rfl (op_nilCheck_c rfl rfl ?_)) | (refine AOps.st 7 rfl rfl rfl (op_nilCheck_f rfl rfl ?_))
  first | (refine AOps.st 8 rfl rfl rfl (op_fieldAddr_m rfl tf_57_0 rfl ?_)) | (refine AOps.st 8 rfl rfl rfl (op_fieldAddr_c rfl tf_57_0 rfl rfl ?_))
  first | (refine AOps.st 9 rfl rfl rfl (op_load_m1 (i := 0) rfl ta_55 rfl rfl rfl ?_)) | (refine AOps.st 9 rfl rfl rfl (op_load_m1 (i := 1) rfl ta_55 rfl rfl rfl ?_)) | (refine AOps.st 9 rfl rfl rfl (op_load_m1 (i := 2) rfl ta_55 rfl rfl rfl ?_)) | (refine AOps.st 9 rfl rfl rfl (op_load_m1 (i := 3) rfl ta_55 rfl rfl rfl ?_)) | (refine AOps.st 9 rfl rfl rfl (op_load_m1 (i := 4) rfl ta_55 rfl rfl rfl ?_)) | (refine AOps.st 9 rfl rfl rfl (op_load_m1 (i := 5) rfl ta_55 rfl rfl rfl ?_)) | (refine AOps.st 9 rfl rfl rfl (op_load_m1 (i := 6) rfl ta_55 rfl rfl rfl ?_)) | (refine AOps.st 9 rfl rfl rfl (op_load_m1 (i := 7) rfl ta_55 rfl rfl rfl ?_)) | (refine AOps.st 9 rfl rfl rfl (op_load_m1 (i := 8) rfl ta_55 rfl rfl rfl ?_)) | (refine AOps.st 9 rfl rfl rfl (op_load_m1 (i := 9) rfl ta_55 rfl rfl rfl ?_)) | (refine AOps.st 9 rfl rfl rfl (op_load_c1 rfl ta_55 rfl rfl ?_))
  first | (refine AOps.st 10 rfl rfl rfl (op_len rfl tu_55 rfl (.seq _ _) (fun n10 => ?_))) | (refine AOps.st 10 rfl rfl rfl (op_len rfl tu_55 rfl (.own _ _ _) (fun n10 => ?_))) | (refine AOps.st 10 rfl rfl rfl (op_len rfl tu_55 rfl (.nil 0) (fun n10 => ?_))) | (refine AOps.st 10 rfl rfl rfl (op_len_arr rfl tu_55 rfl ?_))
  refine AOps.st 11 rfl rfl rfl (op_move rfl rfl ?_)
  refine AOps.nil ?_
  refine go_code ?_
  refine c_block ?_
  apply c_loopk [1, 3, 4, 5, 6, 7, 8, 11, 12, 13, 14, 15, 16, 17, 18, 19, 20, 21, 22, 23, 24, 25, 26, 27, 28, 29, 30, 31, 32] (σ := Nat) (fun zz => match zz with | j => [(11, .val (.int .i64 j))]) (fun zz => match zz with | j => [.loc b2 [.val (.int .i64 0)], .loc b (alt (mcC (.seq 1 [[.ptr bo 0]]) i (.val (.slice none 0 0)) 9 0 0) (mcC (.seq 1 [[.ptr bo 0]]) i (.seq 1 [[.val (.string s)]]) 9 2 0) j), .loc bo (alt (ouC (putF s) false false (vlC 0 ⟨#[]⟩)) (ouC (putF s) false true (vlC 2 kUnit)) j)]) (fun zz => match zz with | j => j ≤ 1) (fun zz => match zz with | j => 1 - j) (0)
  · repeat' (first | exact Drops.nil | apply Drops.keep rfl | apply Drops.skip rfl)
  · exact Nat.zero_le _
  · exact (by repeat' (first | exact SLe.nil _ | refine SLe.cons rfl ?_ ?_ | exact Le.refl _ | exact Le.own _ _ _ | exact Le.nil _))
  · exact (by first | exact MLe.none _ | exact MLe.refl _ | (repeat' (first | exact MLe.nil | exact MLe.refl _ | refine MLe.cons _ ?_ | refine MLe.drop _ ?_)))
  rintro j hI
  try dsimp only [List.cons_append, List.nil_append] at hI ⊢
  refine c_seq ?_
  refine c_region ?_
  refine AOps.st 12 rfl rfl rfl (op_lss rfl rfl rfl ?_); intro c12 h12
  refine AOps.nil ?_
  refine go_code ?_
  refine c_seq ?_
  rcases bool_split h12 with ⟨rfl, g12⟩ | ⟨rfl, g12⟩
  · refine c_cond_f rfl ?_
    refine c_exit ?_
    refine x_code ?_
    refine x_lp ?_
    refine x_here ?_
    refine go_code ?_
    refine c_seq ?_
    obtain rfl : j = 1 := by simp at g12; omega
    simp only [alt]
    refine c_region ?_
    first | (refine AOps.st0 rfl rfl (op_store (cs' := [_]) (i := 0) rfl ts_23 rfl rfl rfl rfl rfl (Nat.le_of_ble_eq_true rfl) rfl ?_)) | (refine AOps.st0 rfl rfl (op_store (cs' := [_]) (i := 1) rfl ts_23 rfl rfl rfl rfl rfl (Nat.le_of_ble_eq_true rfl) rfl ?_)) | (refine AOps.st0 rfl rfl (op_store (cs' := [_]) (i := 2) rfl ts_23 rfl rfl rfl rfl rfl (Nat.le_of_ble_eq_true rfl) rfl ?_)) | (refine AOps.st0 rfl rfl (op_store (cs' := [_]) (i := 3) rfl ts_23 rfl rfl rfl rfl rfl (Nat.le_of_ble_eq_true rfl) rfl ?_)) | (refine AOps.st0 rfl rfl (op_store (cs' := [_]) (i := 4) rfl ts_23 rfl rfl rfl rfl rfl (Nat.le_of_ble_eq_true rfl) rfl ?_)) | (refine AOps.st0 rfl rfl (op_store (cs' := [_]) (i := 5) rfl ts_23 rfl rfl rfl rfl rfl (Nat.le_of_ble_eq_true rfl) rfl ?_)) | (refine AOps.st0 rfl rfl (op_store (cs' := [_]) (i := 6) rfl ts_23 rfl rfl rfl rfl rfl (Nat.le_of_ble_eq_true rfl) rfl ?_)) | (refine AOps.st0 rfl rfl (op_store (cs' := [_]) (i := 7) rfl ts_23 rfl rfl rfl rfl rfl (Nat.le_of_ble_eq_true rfl) rfl ?_)) | (refine AOps.st0 rfl rfl (op_store (cs' := [_]) (i := 8) rfl ts_23 rfl rfl rfl rfl rfl (Nat.le_of_ble_eq_true rfl) rfl ?_)) | (refine AOps.st0 rfl rfl (op_store (cs' := [_]) (i := 9) rfl ts_23 rfl rfl rfl rfl rfl (Nat.le_of_ble_eq_true rfl) rfl ?_))
    refine AOps.nil ?_
    refine go_code ?_
    refine c_ret ?_
    exact out_cell1 (i := 0) rfl rfl rfl ta_23 rfl (Le.refl _) (by first | exact MLe.none _ | exact MLe.refl _ | (repeat' (first | exact MLe.nil | exact MLe.refl _ | refine MLe.cons _ ?_ | refine MLe.drop _ ?_))) ⟨rfl, rfl⟩
  · refine c_cond_t rfl ?_
    refine c_skip ?_
    refine go_code ?_
    refine c_seq ?_
    refine c_block ?_
    refine c_seq ?_
    obtain rfl : j = 0 := by simp at g12; omega
    simp only [alt, mcC, ouC, vlC]
    refine c_region ?_
    first | (refine AOps.st 13 rfl rfl rfl (op_index rfl te_55 rfl (.seq _ _) rfl rfl (by assumption) ?_)) | (refine AOps.st 13 rfl rfl rfl (op_index (i := 0) rfl te_55 rfl (.seq _ _) rfl rfl (by first | rfl | assumption) ?_)) | (refine AOps.st 13 rfl rfl rfl (op_index (i := 1) rfl te_55 rfl (.seq _ _) rfl rfl (by first | rfl | assumption) ?_)) | (refine AOps.st 13 rfl rfl rfl (op_index rfl te_55 rfl (.own _ _ _) rfl rfl (by assumption) ?_)) | (refine AOps.st 13 rfl rfl rfl (op_index (i := 0) rfl te_55 rfl (.own _ _ _) rfl rfl (by first | rfl | assumption) ?_)) | (refine AOps.st 13 rfl rfl rfl (op_index (i := 1) rfl te_55 rfl (.own _ _ _) rfl rfl (by first | rfl | assumption) ?_)) | (refine AOps.st 13 rfl rfl rfl (op_index_arr rfl te_55 rfl rfl rfl (by omega) ?_))
    first | (refine AOps.st 14 rfl rfl rfl (op_load_m1 (i := 0) rfl ta_62 rfl rfl rfl ?_)) | (refine AOps.st 14 rfl rfl rfl (op_load_m1 (i := 1) rfl ta_62 rfl rfl rfl ?_)) | (refine AOps.st 14 rfl rfl rfl (op_load_m1 (i := 2) rfl ta_62 rfl rfl rfl ?_)) | (refine AOps.st 14 rfl rfl rfl (op_load_m1 (i := 3) rfl ta_62 rfl rfl rfl ?_)) | (refine AOps.st 14 rfl rfl rfl (op_load_m1 (i := 4) rfl ta_62 rfl rfl rfl ?_)) | (refine AOps.st 14 rfl rfl rfl (op_load_m1 (i := 5) rfl ta_62 rfl rfl rfl ?_)) | (refine AOps.st 14 rfl rfl rfl (op_load_m1 (i := 6) rfl ta_62 rfl rfl rfl ?_)) | (refine AOps.st 14 rfl rfl rfl (op_load_m1 (i := 7) rfl ta_62 rfl rfl rfl ?_)) | (refine AOps.st 14 rfl rfl rfl (op_load_m1 (i := 8) rfl ta_62 rfl rfl rfl ?_)) | (refine AOps.st 14 rfl rfl rfl (op_load_m1 (i := 9) rfl ta_62 rfl rfl rfl ?_)) | (refine AOps.st 14 rfl rfl rfl (op_load_c1 rfl ta_62 rfl rfl ?_))
    refine AOps.st 4 rfl rfl rfl (op_assign rfl rfl ?_)
    refine AOps.nil ?_
    refine go_code ?_
    refine c_seq ?_
    refine c_region ?_
    refine AOps.st 15 rfl rfl rfl (op_move rfl rfl ?_)
    first | (refine AOps.st 16 rfl rfl rfl (op_nilCheck_m rfl rfl ?_)) | (refine AOps.st 16 rfl rfl rfl (op_nilCheck_c rfl rfl ?_)) | (refine AOps.st 16 rfl rfl rfl (op_nilCheck_f rfl rfl ?_))
    first | (refine AOps.st 17 rfl rfl rfl (op_fieldAddr_m rfl tf_71_1 rfl ?_)) | (refine AOps.st 17 rfl rfl rfl (op_fieldAddr_c rfl tf_71_1 rfl rfl ?_))
    first | (refine AOps.st 18 rfl rfl rfl (op_load_m1 (i := 0) rfl ta_4 rfl rfl rfl ?_)) | (refine AOps.st 18 rfl rfl rfl (op_load_m1 (i := 1) rfl ta_4 rfl rfl rfl ?_)) | (refine AOps.st 18 rfl rfl rfl (op_load_m1 (i := 2) rfl ta_4 rfl rfl rfl ?_)) | (refine AOps.st 18 rfl rfl rfl (op_load_m1 (i := 3) rfl ta_4 rfl rfl rfl ?_)) | (refine AOps.st 18 rfl rfl rfl (op_load_m1 (i := 4) rfl ta_4 rfl rfl rfl ?_)) | (refine AOps.st 18 rfl rfl rfl (op_load_m1 (i := 5) rfl ta_4 rfl rfl rfl ?_)) | (refine AOps.st 18 rfl rfl rfl (op_load_m1 (i := 6) rfl ta_4 rfl rfl rfl ?_)) | (refine AOps.st 18 rfl rfl rfl (op_load_m1 (i := 7) rfl ta_4 rfl rfl rfl ?_)) | (refine AOps.st 18 rfl rfl rfl (op_load_m1 (i := 8) rfl ta_4 rfl rfl rfl ?_)) | (refine AOps.st 18 rfl rfl rfl (op_load_m1 (i := 9) rfl ta_4 rfl rfl rfl ?_)) | (refine AOps.st 18 rfl rfl rfl (op_load_c1 rfl ta_4 rfl rfl ?_))
    refine AOps.st 19 rfl rfl rfl (op_notc rfl rfl ?_); intro c19 h19
    try replace h19 := nott h19 h18
    refine AOps.nil ?_
    refine go_code ?_
    rcases bool_split h19 with ⟨rfl, g19⟩ | ⟨rfl, g19⟩
    · first | exact absurd rfl g19 | simp_all
    · refine c_cond_t rfl ?_
      refine c_seq ?_
      refine c_region ?_
      refine AOps.st 20 rfl rfl rfl (op_move rfl rfl ?_)
      refine AOps.st 21 rfl rfl rfl (op_move rfl rfl ?_)
      first | (refine AOps.st 22 rfl rfl rfl (op_nilCheck_m rfl rfl ?_)) | (refine AOps.st 22 rfl rfl rfl (op_nilCheck_c rfl rfl ?_)) | (refine AOps.st 22 rfl rfl rfl (op_nilCheck_f rfl rfl ?_))
      first | (refine AOps.st 23 rfl rfl rfl (op_fieldAddr_m rfl tf_71_0 rfl ?_)) | (refine AOps.st 23 rfl rfl rfl (op_fieldAddr_c rfl tf_71_0 rfl rfl ?_))
      first | (refine AOps.st 24 rfl rfl rfl (op_load_m1 (i := 0) rfl ta_64 rfl rfl rfl ?_)) | (refine AOps.st 24 rfl rfl rfl (op_load_m1 (i := 1) rfl ta_64 rfl rfl rfl ?_)) | (refine AOps.st 24 rfl rfl rfl (op_load_m1 (i := 2) rfl ta_64 rfl rfl rfl ?_)) | (refine AOps.st 24 rfl rfl rfl (op_load_m1 (i := 3) rfl ta_64 rfl rfl rfl ?_)) | (refine AOps.st 24 rfl rfl rfl (op_load_m1 (i := 4) rfl ta_64 rfl rfl rfl ?_)) | (refine AOps.st 24 rfl rfl rfl (op_load_m1 (i := 5) rfl ta_64 rfl rfl rfl ?_)) | (refine AOps.st 24 rfl rfl rfl (op_load_m1 (i := 6) rfl ta_64 rfl rfl rfl ?_)) | (refine AOps.st 24 rfl rfl rfl (op_load_m1 (i := 7) rfl ta_64 rfl rfl rfl ?_)) | (refine AOps.st 24 rfl rfl rfl (op_load_m1 (i := 8) rfl ta_64 rfl rfl rfl ?_)) | (refine AOps.st 24 rfl rfl rfl (op_load_m1 (i := 9) rfl ta_64 rfl rfl rfl ?_)) | (refine AOps.st 24 rfl rfl rfl (op_load_c1 rfl ta_64 rfl rfl ?_))
      refine AOps.st 25 rfl rfl rfl (op_move rfl rfl ?_)
      refine AOps.st 26 rfl rfl rfl (op_mcallv (i := 1) (xs := [.tmp 25, .const (.pointer none)])  rfl rfl rfl rfl HR (by first | exact Les.refl _ | (repeat' (first | exact Les.refl _ | refine Les.cons ?_ ?_ | exact Le.refl _ | exact Le.own _ _ _ | exact Le.nil _ | refine Le.agg ?_))) ?_)
      first | (refine AOps.st 27 rfl rfl rfl (op_nilCheck_m rfl rfl ?_)) | (refine AOps.st 27 rfl rfl rfl (op_nilCheck_c rfl rfl ?_)) | (refine AOps.st 27 rfl rfl rfl (op_nilCheck_f rfl rfl ?_))
      first | (refine AOps.st 28 rfl rfl rfl (op_fieldAddr_m rfl tf_71_3 rfl ?_)) | (refine AOps.st 28 rfl rfl rfl (op_fieldAddr_c rfl tf_71_3 rfl rfl ?_))
      first | (refine AOps.st0 rfl rfl (op_store (i := 0) rfl ts_69 rfl rfl rfl rfl rfl (Nat.le_of_ble_eq_true rfl) rfl ?_)) | (refine AOps.st0 rfl rfl (op_store (i := 1) rfl ts_69 rfl rfl rfl rfl rfl (Nat.le_of_ble_eq_true rfl) rfl ?_)) | (refine AOps.st0 rfl rfl (op_store (i := 2) rfl ts_69 rfl rfl rfl rfl rfl (Nat.le_of_ble_eq_true rfl) rfl ?_)) | (refine AOps.st0 rfl rfl (op_store (i := 3) rfl ts_69 rfl rfl rfl rfl rfl (Nat.le_of_ble_eq_true rfl) rfl ?_)) | (refine AOps.st0 rfl rfl (op_store (i := 4) rfl ts_69 rfl rfl rfl rfl rfl (Nat.le_of_ble_eq_true rfl) rfl ?_)) | (refine AOps.st0 rfl rfl (op_store (i := 5) rfl ts_69 rfl rfl rfl rfl rfl (Nat.le_of_ble_eq_true rfl) rfl ?_)) | (refine AOps.st0 rfl rfl (op_store (i := 6) rfl ts_69 rfl rfl rfl rfl rfl (Nat.le_of_ble_eq_true rfl) rfl ?_)) | (refine AOps.st0 rfl rfl (op_store (i := 7) rfl ts_69 rfl rfl rfl rfl rfl (Nat.le_of_ble_eq_true rfl) rfl ?_)) | (refine AOps.st0 rfl rfl (op_store (i := 8) rfl ts_69 rfl rfl rfl rfl rfl (Nat.le_of_ble_eq_true rfl) rfl ?_)) | (refine AOps.st0 rfl rfl (op_store (i := 9) rfl ts_69 rfl rfl rfl rfl rfl (Nat.le_of_ble_eq_true rfl) rfl ?_))
      refine AOps.nil ?_
      refine go_code ?_
      refine c_region ?_
      refine AOps.st 29 rfl rfl rfl (op_move rfl rfl ?_)
      first | (refine AOps.st 30 rfl rfl rfl (op_nilCheck_m rfl rfl ?_)) | (refine AOps.st 30 rfl rfl rfl (op_nilCheck_c rfl rfl ?_)) | (refine AOps.st 30 rfl rfl rfl (op_nilCheck_f rfl rfl ?_))
      first | (refine AOps.st 31 rfl rfl rfl (op_fieldAddr_m rfl tf_71_2 rfl ?_)) | (refine AOps.st 31 rfl rfl rfl (op_fieldAddr_c rfl tf_71_2 rfl rfl ?_))
      first | (refine AOps.st0 rfl rfl (op_store (i := 0) rfl ts_4 rfl rfl rfl rfl rfl (Nat.le_of_ble_eq_true rfl) rfl ?_)) | (refine AOps.st0 rfl rfl (op_store (i := 1) rfl ts_4 rfl rfl rfl rfl rfl (Nat.le_of_ble_eq_true rfl) rfl ?_)) | (refine AOps.st0 rfl rfl (op_store (i := 2) rfl ts_4 rfl rfl rfl rfl rfl (Nat.le_of_ble_eq_true rfl) rfl ?_)) | (refine AOps.st0 rfl rfl (op_store (i := 3) rfl ts_4 rfl rfl rfl rfl rfl (Nat.le_of_ble_eq_true rfl) rfl ?_)) | (refine AOps.st0 rfl rfl (op_store (i := 4) rfl ts_4 rfl rfl rfl rfl rfl (Nat.le_of_ble_eq_true rfl) rfl ?_)) | (refine AOps.st0 rfl rfl (op_store (i := 5) rfl ts_4 rfl rfl rfl rfl rfl (Nat.le_of_ble_eq_true rfl) rfl ?_)) | (refine AOps.st0 rfl rfl (op_store (i := 6) rfl ts_4 rfl rfl rfl rfl rfl (Nat.le_of_ble_eq_true rfl) rfl ?_)) | (refine AOps.st0 rfl rfl (op_store (i := 7) rfl ts_4 rfl rfl rfl rfl rfl (Nat.le_of_ble_eq_true rfl) rfl ?_)) | (refine AOps.st0 rfl rfl (op_store (i := 8) rfl ts_4 rfl rfl rfl rfl rfl (Nat.le_of_ble_eq_true rfl) rfl ?_)) | (refine AOps.st0 rfl rfl (op_store (i := 9) rfl ts_4 rfl rfl rfl rfl rfl (Nat.le_of_ble_eq_true rfl) rfl ?_))
      refine AOps.nil ?_
      refine go_blk ?_
      refine go_code ?_
      refine c_region ?_
      first | (refine AOps.st 32 rfl rfl rfl (op_add rfl rfl rfl (IntWalk.i64_in _ (by omega)) ?_)) | (refine AOps.st 32 rfl rfl rfl (op_add rfl rfl rfl rfl ?_))
      refine AOps.st 11 rfl rfl rfl (op_move rfl rfl ?_)
      refine AOps.nil ?_
      refine go_lp ?_
      exact ⟨1, by decide, by decide, (by repeat' (first | exact SLe.nil _ | refine SLe.cons rfl ?_ ?_ | exact Le.refl _ | exact Le.own _ _ _ | exact Le.nil _)), (by first | exact MLe.none _ | exact MLe.refl _ | (repeat' (first | exact MLe.nil | exact MLe.refl _ | refine MLe.cons _ ?_ | refine MLe.drop _ ?_)))⟩
end Go.Proofs.Ytflkdojahfmbnaa
