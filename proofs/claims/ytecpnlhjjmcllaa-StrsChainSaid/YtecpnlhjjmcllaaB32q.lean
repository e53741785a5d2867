/- cognateref32.Get. -/
import Derived.Test.YtecpnlhjjmcllaaB32o
namespace Go.Proofs.Ytecpnlhjjmcllaa
open Go.RowKit
theorem adr_lt {H : List HO} {k k' : Nat} {o : HO} (h : H[k]? = some o) (hk : k < k') : adr H k < adr H k' := by
  have h1 : H.take (k + 1) = (H.take k').take (k + 1) := by rw [List.take_take]; congr 1; omega
  have h2 := used_take (H.take k') (k + 1)
  rw [← h1, take_next h, used_app, used_one] at h2
  unfold adr; omega
theorem adr_inj {H : List HO} {k k' : Nat} {o o' : HO} (h : H[k]? = some o) (h' : H[k']? = some o') (e : adr H k = adr H k') : k = k' := by
  rcases Nat.lt_trichotomy k k' with q | q | q
  · have := adr_lt h q; omega
  · exact q
  · have := adr_lt h' q; omega
theorem objOf_num {H : List HO} {w : Int} {o : HO} (h : objOf H w = some o) : ∃ k, H[k]? = some o ∧ w = 2 * ((adr H k : Nat) : Int) := by
  obtain ⟨p, q, rfl, e⟩ := objFrom_some H 1 w o h
  refine ⟨p.length, by simp, ?_⟩
  rw [e, adr, List.take_left]
  omega
theorem rFind_none (br : Nat) (sz : Int) (H : List HO) (M : Mem) (hM : RefAt br sz H M) (hu : used H ≤ 16777216) (w : Int) (h : objOf H w = none) : KCall Try.prog 41 [.ptr br 0, .val (.int .u64 w)] M (.val (.int .i64 (-1))) :=
  (rFind_c br sz H M hM hu w).mono (by
    rintro v M' ⟨⟨k, o, _, h2, _⟩ | ⟨_, rfl⟩, rfl⟩
    · rw [h] at h2; cases h2
    · exact ⟨rfl, rfl⟩)
set_option maxHeartbeats 4000000 in
set_option maxRecDepth 100000 in
theorem rFind_some (br : Nat) (sz : Int) (H : List HO) (M : Mem) (hM : RefAt br sz H M) (hu : used H ≤ 16777216) (k : Nat) (o : HO) (hk : H[k]? = some o) : KCall Try.prog 41 [.ptr br 0, .val (.int .u64 (2 * ((adr H k : Nat) : Int)))] M (.val (.int .i64 k)) := by
  obtain ⟨u, rfl⟩ := hM
  have hl := oRows_len H 1
  refine ACall.enter Try.func41 rfl (by kernel_rfl) rfl (Nat.le_of_ble_eq_true rfl) ?_
  refine c_start ?_
  refine c_seq ?_
  refine c_region ?_
  refine AOps.st 4 rfl rfl rfl (op_assign rfl rfl ?_)
  refine AOps.nil ?_
  refine go_code ?_
  refine c_seq ?_
  refine c_seq ?_
  refine c_region ?_
  refine AOps.st 5 rfl rfl rfl (op_assign rfl rfl ?_)
  refine AOps.nil ?_
  refine go_code ?_
  refine c_block ?_
  apply c_loopkm [2, 3, 4, 5, 6, 7, 8, 9, 10, 11, 12, 13, 14, 15, 16, 17, 18, 19, 20, 21, 22, 23, 24, 25, 26, 27] (σ := Nat) (fun zz => match zz with | j => [(5, .val (.int .i64 j))]) (fun zz => match zz with | j => j ≤ k) (fun zz => match zz with | j => H.length - j) (0)
  · repeat' (first | exact Drops.nil | apply Drops.keep rfl | apply Drops.skip rfl)
  · exact Nat.zero_le _
  · exact (by repeat' (first | exact SLe.nil _ | refine SLe.cons rfl ?_ ?_ | exact Le.refl _ | exact Le.own _ _ _ | exact Le.nil _))
  rintro j hI
  try dsimp only [List.cons_append, List.nil_append] at hI ⊢
  refine c_seq ?_
  refine c_seq ?_
  refine c_region ?_
  refine AOps.st 6 rfl rfl rfl (op_move rfl rfl ?_)
  refine AOps.st 7 rfl rfl rfl (op_move rfl rfl ?_)
  first | (refine AOps.st 8 rfl rfl rfl (op_nilCheck_m rfl rfl ?_)) | (refine AOps.st 8 rfl rfl rfl (op_nilCheck_c rfl rfl ?_)) | (refine AOps.st 8 rfl rfl rfl (op_nilCheck_f rfl rfl ?_))
  first | (refine AOps.st 9 rfl rfl rfl (op_fieldAddr_m rfl tf_33_1 rfl ?_)) | (refine AOps.st 9 rfl rfl rfl (op_fieldAddr_c rfl tf_33_1 rfl rfl ?_))
  first | (refine AOps.st 10 rfl rfl rfl (op_load_m1 (i := 0) rfl ta_31 rfl rfl rfl ?_)) | (refine AOps.st 10 rfl rfl rfl (op_load_m1 (i := 1) rfl ta_31 rfl rfl rfl ?_)) | (refine AOps.st 10 rfl rfl rfl (op_load_m1 (i := 2) rfl ta_31 rfl rfl rfl ?_)) | (refine AOps.st 10 rfl rfl rfl (op_load_m1 (i := 3) rfl ta_31 rfl rfl rfl ?_)) | (refine AOps.st 10 rfl rfl rfl (op_load_m1 (i := 4) rfl ta_31 rfl rfl rfl ?_)) | (refine AOps.st 10 rfl rfl rfl (op_load_m1 (i := 5) rfl ta_31 rfl rfl rfl ?_)) | (refine AOps.st 10 rfl rfl rfl (op_load_m1 (i := 6) rfl ta_31 rfl rfl rfl ?_)) | (refine AOps.st 10 rfl rfl rfl (op_load_m1 (i := 7) rfl ta_31 rfl rfl rfl ?_)) | (refine AOps.st 10 rfl rfl rfl (op_load_m1 (i := 8) rfl ta_31 rfl rfl rfl ?_)) | (refine AOps.st 10 rfl rfl rfl (op_load_m1 (i := 9) rfl ta_31 rfl rfl rfl ?_)) | (refine AOps.st 10 rfl rfl rfl (op_load_c1 rfl ta_31 rfl rfl ?_))
  first | (refine AOps.st 11 rfl rfl rfl (op_len rfl tu_31 rfl (.seq _ _) (fun n11 => ?_))) | (refine AOps.st 11 rfl rfl rfl (op_len rfl tu_31 rfl (.own _ _ _) (fun n11 => ?_))) | (refine AOps.st 11 rfl rfl rfl (op_len rfl tu_31 rfl (.nil 0) (fun n11 => ?_))) | (refine AOps.st 11 rfl rfl rfl (op_len_arr rfl tu_31 rfl ?_))
  refine AOps.st 12 rfl rfl rfl (op_lss rfl rfl rfl ?_); intro c12 h12
  refine AOps.nil ?_
  refine go_code ?_
  rcases bool_split h12 with ⟨rfl, g12⟩ | ⟨rfl, g12⟩
  · refine c_cond_f rfl ?_
    refine c_exit ?_
    refine x_code ?_
    refine x_lp ?_
    refine x_here ?_
    refine go_code ?_
    refine c_seq ?_
    have hkl := get_lt hk
    omega
  · refine c_cond_t rfl ?_
    refine c_skip ?_
    refine go_code ?_
    refine c_seq ?_
    refine c_block ?_
    refine c_seq ?_
    have hkl := get_lt hk
    obtain ⟨o', ho⟩ := getk (l := H) (i := j) (by omega)
    have hg := oRows_get ho
    have hn := adr_fit ho
    have hn2 := adr_fit hk
    have hinj : adr H j = adr H k → j = k := adr_inj ho hk
    refine c_region ?_
    refine AOps.st 15 rfl rfl rfl (op_move rfl rfl ?_)
    first | (refine AOps.st 16 rfl rfl rfl (op_nilCheck_m rfl rfl ?_)) | (refine AOps.st 16 rfl rfl rfl (op_nilCheck_c rfl rfl ?_)) | (refine AOps.st 16 rfl rfl rfl (op_nilCheck_f rfl rfl ?_))
    first | (refine AOps.st 17 rfl rfl rfl (op_fieldAddr_m rfl tf_33_1 rfl ?_)) | (refine AOps.st 17 rfl rfl rfl (op_fieldAddr_c rfl tf_33_1 rfl rfl ?_))
    first | (refine AOps.st 18 rfl rfl rfl (op_load_m1 (i := 0) rfl ta_31 rfl rfl rfl ?_)) | (refine AOps.st 18 rfl rfl rfl (op_load_m1 (i := 1) rfl ta_31 rfl rfl rfl ?_)) | (refine AOps.st 18 rfl rfl rfl (op_load_m1 (i := 2) rfl ta_31 rfl rfl rfl ?_)) | (refine AOps.st 18 rfl rfl rfl (op_load_m1 (i := 3) rfl ta_31 rfl rfl rfl ?_)) | (refine AOps.st 18 rfl rfl rfl (op_load_m1 (i := 4) rfl ta_31 rfl rfl rfl ?_)) | (refine AOps.st 18 rfl rfl rfl (op_load_m1 (i := 5) rfl ta_31 rfl rfl rfl ?_)) | (refine AOps.st 18 rfl rfl rfl (op_load_m1 (i := 6) rfl ta_31 rfl rfl rfl ?_)) | (refine AOps.st 18 rfl rfl rfl (op_load_m1 (i := 7) rfl ta_31 rfl rfl rfl ?_)) | (refine AOps.st 18 rfl rfl rfl (op_load_m1 (i := 8) rfl ta_31 rfl rfl rfl ?_)) | (refine AOps.st 18 rfl rfl rfl (op_load_m1 (i := 9) rfl ta_31 rfl rfl rfl ?_)) | (refine AOps.st 18 rfl rfl rfl (op_load_c1 rfl ta_31 rfl rfl ?_))
    refine AOps.st 19 rfl rfl rfl (op_move rfl rfl ?_)
    first | (refine AOps.st 20 rfl rfl rfl (op_index rfl te_31 rfl (.seq _ _) rfl rfl (hg) ?_)) | (refine AOps.st 20 rfl rfl rfl (op_index (i := 0) rfl te_31 rfl (.seq _ _) rfl rfl (by first | rfl | assumption) ?_)) | (refine AOps.st 20 rfl rfl rfl (op_index (i := 1) rfl te_31 rfl (.seq _ _) rfl rfl (by first | rfl | assumption) ?_)) | (refine AOps.st 20 rfl rfl rfl (op_index rfl te_31 rfl (.own _ _ _) rfl rfl (hg) ?_)) | (refine AOps.st 20 rfl rfl rfl (op_index (i := 0) rfl te_31 rfl (.own _ _ _) rfl rfl (by first | rfl | assumption) ?_)) | (refine AOps.st 20 rfl rfl rfl (op_index (i := 1) rfl te_31 rfl (.own _ _ _) rfl rfl (by first | rfl | assumption) ?_)) | (refine AOps.st 20 rfl rfl rfl (op_index_arr rfl te_31 rfl rfl rfl (by omega) ?_))
    first | (refine AOps.st 21 rfl rfl rfl (op_fieldAddr_m rfl tf_86_0 rfl ?_)) | (refine AOps.st 21 rfl rfl rfl (op_fieldAddr_c rfl tf_86_0 rfl rfl ?_))
    first | (refine AOps.st 22 rfl rfl rfl (op_load_m1 (i := 0) rfl ta_3 rfl rfl rfl ?_)) | (refine AOps.st 22 rfl rfl rfl (op_load_m1 (i := 1) rfl ta_3 rfl rfl rfl ?_)) | (refine AOps.st 22 rfl rfl rfl (op_load_m1 (i := 2) rfl ta_3 rfl rfl rfl ?_)) | (refine AOps.st 22 rfl rfl rfl (op_load_m1 (i := 3) rfl ta_3 rfl rfl rfl ?_)) | (refine AOps.st 22 rfl rfl rfl (op_load_m1 (i := 4) rfl ta_3 rfl rfl rfl ?_)) | (refine AOps.st 22 rfl rfl rfl (op_load_m1 (i := 5) rfl ta_3 rfl rfl rfl ?_)) | (refine AOps.st 22 rfl rfl rfl (op_load_m1 (i := 6) rfl ta_3 rfl rfl rfl ?_)) | (refine AOps.st 22 rfl rfl rfl (op_load_m1 (i := 7) rfl ta_3 rfl rfl rfl ?_)) | (refine AOps.st 22 rfl rfl rfl (op_load_m1 (i := 8) rfl ta_3 rfl rfl rfl ?_)) | (refine AOps.st 22 rfl rfl rfl (op_load_m1 (i := 9) rfl ta_3 rfl rfl rfl ?_)) | (refine AOps.st 22 rfl rfl rfl (op_load_c1 rfl ta_3 rfl rfl ?_))
    first | (refine AOps.st 23 rfl rfl rfl (op_mul rfl rfl rfl (IntWalk.i64_in _ (by omega)) ?_)) | (refine AOps.st 23 rfl rfl rfl (op_mul rfl rfl rfl rfl ?_))
    first | (refine AOps.st 24 rfl rfl rfl (op_convert rfl tu_3 tu_42 rfl (IntWalk.u64_in _ (by omega)) ?_)) | (refine AOps.st 24 rfl rfl rfl (op_convert rfl tu_3 tu_42 rfl rfl ?_))
    refine AOps.st 25 rfl rfl rfl (op_move rfl rfl ?_)
    refine AOps.st 26 rfl rfl rfl (op_eql rfl rfl rfl ?_); intro c26 h26
    refine AOps.nil ?_
    refine go_code ?_
    rcases bool_split h26 with ⟨rfl, g26⟩ | ⟨rfl, g26⟩
    · refine c_cond_f rfl ?_
      refine c_skip ?_
      refine go_blk ?_
      refine go_code ?_
      refine c_region ?_
      refine AOps.st 13 rfl rfl rfl (op_move rfl rfl ?_)
      first | (refine AOps.st 14 rfl rfl rfl (op_add rfl rfl rfl (IntWalk.i64_in _ (by omega)) ?_)) | (refine AOps.st 14 rfl rfl rfl (op_add rfl rfl rfl rfl ?_))
      refine AOps.st 5 rfl rfl rfl (op_assign rfl rfl ?_)
      refine AOps.nil ?_
      refine go_lp ?_
      refine ⟨j + 1, ?_, by have := get_lt ho; show H.length - (j + 1) < H.length - j; omega, (by repeat' (first | exact SLe.nil _ | refine SLe.cons rfl ?_ ?_ | exact Le.refl _ | exact Le.own _ _ _ | exact Le.nil _)), (by first | exact MLe.none _ | exact MLe.refl _ | (repeat' (first | exact MLe.nil | exact MLe.refl _ | refine MLe.cons _ ?_ | refine MLe.drop _ ?_)))⟩
      have : j ≠ k := fun e => by subst e; omega
      show j + 1 ≤ k
      omega
    · refine c_cond_t rfl ?_
      refine c_seq ?_
      obtain rfl : j = k := hinj (by omega)
      refine c_region ?_
      refine AOps.st 27 rfl rfl rfl (op_move rfl rfl ?_)
      refine AOps.st 4 rfl rfl rfl (op_assign rfl rfl ?_)
      refine AOps.nil ?_
      refine go_code ?_
      refine c_ret ?_
      exact out_tmp rfl rfl (Le.refl _) (by first | exact MLe.none _ | exact MLe.refl _ | (repeat' (first | exact MLe.nil | exact MLe.refl _ | refine MLe.cons _ ?_ | refine MLe.drop _ ?_))) ⟨rfl, rfl⟩
def u8e (ns : List Nat) : List (List AV) := ns.map fun n : Nat => [.val (.int .u8 (n : Int))]
theorem u8e_bts (ns : List Nat) : u8e ns = bts (ns.map fun n : Nat => (n : Int)) := by unfold u8e bts; rw [List.map_map]; rfl
theorem u8e_len (ns : List Nat) : (u8e ns).length = ns.length := by simp [u8e]
theorem bytesOf_next (ls : List Nat) (n : Nat) : bytesOf ls (n + 1) = bytesOf ls n ++ [byteAt ls n] := by simp [bytesOf, List.range_succ]
theorem bytesOf_take (ls : List Nat) (n m : Nat) (h : n ≤ m) : (bytesOf ls m).take n = bytesOf ls n := by
  unfold bytesOf
  rw [← List.map_take, List.take_range, Nat.min_eq_left h]
theorem byteAt_word (ls : List Nat) (i j x : Nat) (hj : j < 8) (hx : ls[i]? = some x) : byteAt ls (8 * i + j) = x / 256 ^ j % 256 := by
  unfold byteAt
  rw [show (8 * i + j) / 8 = i by omega, show (8 * i + j) % 8 = j by omega, List.getD_eq_getElem?_getD, hx]
  rfl
theorem intW_inj {a b : Nat} (ha : a < 4611686018427387904) (hb : b < 4611686018427387904) (h : intW a = intW b) : a = b := by
  have h1 := (toI_intW a ha).1
  have h2 := (toI_intW b hb).1
  rw [h] at h1
  omega
theorem cast_inj {l : List Int} {ns : List Nat} (h : l = ns.map (fun n : Nat => (n : Int))) : natsOf l = ns := by rw [h]; exact natsOf_map ns
theorem get_yes {H : List HO} {w p : Int} {l : List Int} {n : Nat} (hb : ∀ x ∈ l, 0 ≤ x) (ho : objOf H w = some ⟨3, 0, p :: l⟩) (hn : n ≤ 1000000000) (hp : intW n = p) (hk : packL (bytesOf (natsOf l) n) = natsOf l) : getT H w = some (strN (bytesOf (natsOf l) n)) := by
  have h1 : bytesN (strN (bytesOf (natsOf l) n)) = bytesOf (natsOf l) n := bytesN_strN _ (fun x hx => by
    obtain ⟨i, _, rfl⟩ := List.mem_map.1 hx
    exact byteAt_lt _ _)
  have h2 : (strN (bytesOf (natsOf l) n)).size = n := by rw [strN_size, bytesOf_len]
  refine getT_text ?_ (by omega)
  rw [ho]
  unfold textO txt
  rw [h1, h2, hk, hp, natsOf_cast hb]
theorem get_not {H : List HO} {w p : Int} {l : List Int} (hH : ∀ o ∈ H, o.ok) (ho : objOf H w = some ⟨3, 0, p :: l⟩) (h : ∀ n : Nat, n ≤ 8 * l.length → intW n = p → packL (bytesOf (natsOf l) n) ≠ natsOf l) : getT H w = none := by
  cases hg : getT H w with
  | none => rfl
  | some s =>
    obtain ⟨o, ho2, rfl, hs⟩ := getT_some hH hg
    rw [ho] at ho2
    have e := Option.some.inj ho2
    unfold textO txt at e
    simp only [HO.mk.injEq, List.cons.injEq, true_and] at e
    have e2 := cast_inj e.2
    have hl : l.length = (s.size + 7) / 8 := by
      have := congrArg List.length e2
      rw [packL_len, bytesN_len] at this
      simpa [natsOf] using this
    refine absurd ?_ (h s.size (by omega) e.1.symm)
    rw [e2]
    have := bytes_pack (bytesN s) (bytesN_lt s)
    rw [bytesN_len] at this
    rw [this]
set_option maxHeartbeats 4000000 in
set_option maxRecDepth 100000 in
theorem rGet_c (br : Nat) (sz : Int) (H : List HO) (M : Mem) (hM : RefAt br sz H M) (hH : ∀ o ∈ H, o.ok) (hu : used H ≤ 1000000) (w : Int) : KCall Try.prog 32 [.ptr br 0, .val (.int .u64 w)] M (getR H w) := by
  rw [getR_eq]
  cases ho : objOf H w with
  | none =>
    have hF := rFind_none br sz H M hM (by omega) w ho
    have hg : getT H w = none := by unfold getT; rw [ho]
    rw [hg]
    obtain ⟨r0, r1, rfl⟩ := hM.two
    refine ACall.enter Try.func32 rfl (by kernel_rfl) rfl (Nat.le_of_ble_eq_true rfl) ?_
    refine c_start ?_
    refine c_seq ?_
    refine c_region ?_
    refine AOps.st 4 rfl rfl rfl (op_assign rfl rfl ?_)
    refine AOps.st 5 rfl rfl rfl (op_assign rfl rfl ?_)
    refine AOps.nil ?_
    refine go_code ?_
    refine c_seq ?_
    refine c_region ?_
    refine AOps.st 16 rfl rfl rfl (op_move rfl rfl ?_)
    refine AOps.st 17 rfl rfl rfl (op_move rfl rfl ?_)
    refine AOps.st 18 rfl rfl rfl (op_callk (xs := [.tmp 16, .tmp 17]) [0,0] rfl rfl rfl (hF) (by first | exact Les.refl _ | (repeat' (first | exact Les.refl _ | refine Les.cons ?_ ?_ | exact Le.refl _ | exact Le.own _ _ _ | exact Le.nil _ | refine Le.agg ?_))) ?_)
    refine AOps.st 6 rfl rfl rfl (op_assign rfl rfl ?_)
    refine AOps.nil ?_
    refine go_code ?_
    refine c_seq ?_
    refine c_seq ?_
    refine c_bool 42 (True) ?_ _ _ rfl ?_
    · skip
      refine AOps.st 19 rfl rfl rfl (op_move rfl rfl ?_)
      refine AOps.st 20 rfl rfl rfl (op_lss rfl rfl rfl ?_); intro c20 h20
      refine AOps.st 21 rfl rfl rfl (op_move rfl rfl ?_)
      rcases bool_split h20 with ⟨rfl, g20⟩ | ⟨rfl, g20⟩
      · exact absurd (by decide) g20
      · skip
        refine AOps.gf 22 rfl rfl rfl rfl rfl ?_
        refine AOps.gf 23 rfl rfl rfl rfl rfl ?_
        refine AOps.gf 24 rfl rfl rfl rfl rfl ?_
        refine AOps.gf 25 rfl rfl rfl rfl rfl ?_
        refine AOps.gf 26 rfl rfl rfl rfl rfl ?_
        refine AOps.gf 27 rfl rfl rfl rfl rfl ?_
        refine AOps.gf 28 rfl rfl rfl rfl rfl ?_
        refine AOps.gf 29 rfl rfl rfl rfl rfl ?_
        refine AOps.gf 30 rfl rfl rfl rfl rfl ?_
        refine AOps.st 31 rfl rfl rfl (op_pick rfl rfl rfl ?_)
        refine AOps.st 32 rfl rfl rfl (op_move rfl rfl ?_)
        refine AOps.gf 33 rfl rfl rfl rfl rfl ?_
        refine AOps.gf 34 rfl rfl rfl rfl rfl ?_
        refine AOps.gf 35 rfl rfl rfl rfl rfl ?_
        refine AOps.gf 36 rfl rfl rfl rfl rfl ?_
        refine AOps.gf 37 rfl rfl rfl rfl rfl ?_
        refine AOps.gf 38 rfl rfl rfl rfl rfl ?_
        refine AOps.gf 39 rfl rfl rfl rfl rfl ?_
        refine AOps.gf 40 rfl rfl rfl rfl rfl ?_
        refine AOps.gf 41 rfl rfl rfl rfl rfl ?_
        refine AOps.st 42 rfl rfl rfl (op_pick rfl rfl rfl ?_)
        refine AOps.nil ?_
        refine BoolQ.mk rfl ?_ (by repeat' (first | exact SLe.wo _ _ | exact SLe.refl _ | refine SLe.fresh rfl ?_)) (by first | exact MLe.none _ | exact MLe.refl _ | (repeat' (first | exact MLe.nil | exact MLe.refl _ | refine MLe.cons _ ?_ | refine MLe.drop _ ?_)))
        first | (simp_all; done) | (simp_all; omega)
    intro c42 h42
    refine go_code ?_
    rcases bool_split h42 with ⟨rfl, g42⟩ | ⟨rfl, g42⟩
    · refine c_cond_f rfl ?_
      refine c_skip ?_
      refine go_code ?_
      refine c_seq ?_
      exact absurd trivial g42
    · refine c_cond_t rfl ?_
      refine c_seq ?_
      refine c_region ?_
      refine AOps.st 4 rfl rfl rfl (op_assign rfl rfl ?_)
      refine AOps.st 5 rfl rfl rfl (op_assign rfl rfl ?_)
      refine AOps.nil ?_
      refine go_code ?_
      refine c_ret ?_
      exact out_tt rfl rfl rfl (Le.refl _) (by first | exact MLe.none _ | exact MLe.refl _ | (repeat' (first | exact MLe.nil | exact MLe.refl _ | refine MLe.cons _ ?_ | refine MLe.drop _ ?_))) ⟨rfl, rfl⟩
  | some o =>
    obtain ⟨kk, hkk, rfl⟩ := objOf_num ho
    have hF := rFind_some br sz H M hM (by omega) kk o hkk
    have hgr := oRows_get hkk
    have hmem := List.mem_of_getElem? hkk
    have hok := hH o hmem
    have hfit := adr_fit hkk
    obtain ⟨u0, rfl⟩ := hM
    have hl0 := oRows_len H 1
    have hkl := get_lt hkk
    have hHl : H.length ≤ used H := by
      clear hl0 hu hF hgr hmem hok hfit hkl hkk ho hH
      induction H with
      | nil => simp
      | cons o H ih => rw [used_cons, List.length_cons]; omega
    by_cases hk : o.kind = 3 ∧ o.tag = 0
    · obtain ⟨kd, tg, ps⟩ := o
      simp only at hk
      obtain ⟨rfl, rfl⟩ := hk
      cases ps with
      | nil => have := hok.2.1; simp at this
      | cons p l =>
        have hpb := hok.2.2
        simp only [List.length_cons] at hfit hpb
        have hb0 : ∀ x ∈ l, 0 ≤ x := fun x hx => (hpb x (by simp [hx])).1
        have hyes := fun n hn hp hk => get_yes (n := n) hb0 ho hn hp hk
        have hnot := get_not hH ho
        generalize hgT : getT H (2 * ((adr H kk : Nat) : Int)) = gT at *
        have hnl : (natsOf l).length = l.length := by simp [natsOf]
        have hiv : l.map iv = (natsOf l).map ivN := by
          have e := congrArg (List.map iv) (natsOf_cast hb0)
          rw [List.map_map] at e
          exact e.symm
        have hls : ∀ x ∈ natsOf l, x ≤ 18446744073709551615 := by
          intro x hx
          obtain ⟨y, hy, rfl⟩ := List.mem_map.1 hx
          have := hpb y (by simp [hy])
          omega
        have hrow : oRow (adr H kk) ⟨3, 0, p :: l⟩ = [.val (.int .i64 (adr H kk)), .val (.int .i64 3), .val (.int .i64 0), .seq 1 (iv p :: (natsOf l).map ivN)] := by
          unfold oRow
          rw [List.map_cons, hiv]
        rw [hrow] at hgr
        generalize natsOf l = ls at *
        generalize l.length = L at *
        clear hiv hpb hb0 hok hrow hgT ho hmem hkk
        have hgv : (ls.map ivN).length = L := by simpa using hnl
        have hgl0 : (iv p :: ls.map ivN).length = L + 1 := by simpa using hnl
        have hgx : ∀ (i x : Nat), ls[i]? = some x → (iv p :: ls.map ivN)[i + 1]? = some (ivN x) := fun i x hx => by simp [hx]
        have hgl : ∀ i x : Nat, ls[i]? = some x → x ≤ 18446744073709551615 := fun i x hx => hls x (List.mem_of_getElem? hx)
        refine ACall.enter Try.func32 rfl (by kernel_rfl) rfl (Nat.le_of_ble_eq_true rfl) ?_
        refine c_start ?_
        refine c_seq ?_
        refine c_region ?_
        refine AOps.st 4 rfl rfl rfl (op_assign rfl rfl ?_)
        refine AOps.st 5 rfl rfl rfl (op_assign rfl rfl ?_)
        refine AOps.nil ?_
        refine go_code ?_
        refine c_seq ?_
        refine c_region ?_
        refine AOps.st 16 rfl rfl rfl (op_move rfl rfl ?_)
        refine AOps.st 17 rfl rfl rfl (op_move rfl rfl ?_)
        refine AOps.st 18 rfl rfl rfl (op_callk (xs := [.tmp 16, .tmp 17]) [0,0] rfl rfl rfl (hF) (by first | exact Les.refl _ | (repeat' (first | exact Les.refl _ | refine Les.cons ?_ ?_ | exact Le.refl _ | exact Le.own _ _ _ | exact Le.nil _ | refine Le.agg ?_))) ?_)
        refine AOps.st 6 rfl rfl rfl (op_assign rfl rfl ?_)
        refine AOps.nil ?_
        refine go_code ?_
        refine c_seq ?_
        refine c_seq ?_
        refine c_bool 42 (False) ?_ _ _ rfl ?_
        · skip
          refine AOps.st 19 rfl rfl rfl (op_move rfl rfl ?_)
          refine AOps.st 20 rfl rfl rfl (op_lss rfl rfl rfl ?_); intro c20 h20
          refine AOps.st 21 rfl rfl rfl (op_move rfl rfl ?_)
          rcases bool_split h20 with ⟨rfl, g20⟩ | ⟨rfl, g20⟩
          · skip
            refine AOps.gt 22 rfl rfl rfl rfl rfl (op_move rfl rfl ?_)
            first | (refine AOps.gt 23 rfl rfl rfl rfl rfl (op_nilCheck_m rfl rfl ?_)) | (refine AOps.gt 23 rfl rfl rfl rfl rfl (op_nilCheck_c rfl rfl ?_)) | (refine AOps.gt 23 rfl rfl rfl rfl rfl (op_nilCheck_f rfl rfl ?_))
            first | (refine AOps.gt 24 rfl rfl rfl rfl rfl (op_fieldAddr_m rfl tf_33_1 rfl ?_)) | (refine AOps.gt 24 rfl rfl rfl rfl rfl (op_fieldAddr_c rfl tf_33_1 rfl rfl ?_))
            first | (refine AOps.gt 25 rfl rfl rfl rfl rfl (op_load_m1 (i := 0) rfl ta_31 rfl rfl rfl ?_)) | (refine AOps.gt 25 rfl rfl rfl rfl rfl (op_load_m1 (i := 1) rfl ta_31 rfl rfl rfl ?_)) | (refine AOps.gt 25 rfl rfl rfl rfl rfl (op_load_m1 (i := 2) rfl ta_31 rfl rfl rfl ?_)) | (refine AOps.gt 25 rfl rfl rfl rfl rfl (op_load_m1 (i := 3) rfl ta_31 rfl rfl rfl ?_)) | (refine AOps.gt 25 rfl rfl rfl rfl rfl (op_load_m1 (i := 4) rfl ta_31 rfl rfl rfl ?_)) | (refine AOps.gt 25 rfl rfl rfl rfl rfl (op_load_m1 (i := 5) rfl ta_31 rfl rfl rfl ?_)) | (refine AOps.gt 25 rfl rfl rfl rfl rfl (op_load_m1 (i := 6) rfl ta_31 rfl rfl rfl ?_)) | (refine AOps.gt 25 rfl rfl rfl rfl rfl (op_load_m1 (i := 7) rfl ta_31 rfl rfl rfl ?_)) | (refine AOps.gt 25 rfl rfl rfl rfl rfl (op_load_m1 (i := 8) rfl ta_31 rfl rfl rfl ?_)) | (refine AOps.gt 25 rfl rfl rfl rfl rfl (op_load_m1 (i := 9) rfl ta_31 rfl rfl rfl ?_)) | (refine AOps.gt 25 rfl rfl rfl rfl rfl (op_load_c1 rfl ta_31 rfl rfl ?_))
            refine AOps.gt 26 rfl rfl rfl rfl rfl (op_move rfl rfl ?_)
            first | (refine AOps.gt 27 rfl rfl rfl rfl rfl (op_index rfl te_31 rfl (.seq _ _) rfl rfl (hgr) ?_)) | (refine AOps.gt 27 rfl rfl rfl rfl rfl (op_index (i := 0) rfl te_31 rfl (.seq _ _) rfl rfl (by first | rfl | assumption) ?_)) | (refine AOps.gt 27 rfl rfl rfl rfl rfl (op_index (i := 1) rfl te_31 rfl (.seq _ _) rfl rfl (by first | rfl | assumption) ?_)) | (refine AOps.gt 27 rfl rfl rfl rfl rfl (op_index rfl te_31 rfl (.own _ _ _) rfl rfl (hgr) ?_)) | (refine AOps.gt 27 rfl rfl rfl rfl rfl (op_index (i := 0) rfl te_31 rfl (.own _ _ _) rfl rfl (by first | rfl | assumption) ?_)) | (refine AOps.gt 27 rfl rfl rfl rfl rfl (op_index (i := 1) rfl te_31 rfl (.own _ _ _) rfl rfl (by first | rfl | assumption) ?_)) | (refine AOps.gt 27 rfl rfl rfl rfl rfl (op_index (i := kk) rfl te_31 rfl (.seq _ _) rfl (by first | rfl | omega) (hgr) ?_)) | (refine AOps.gt 27 rfl rfl rfl rfl rfl (op_index (i := kk) rfl te_31 rfl (.own _ _ _) rfl (by first | rfl | omega) (hgr) ?_)) | (refine AOps.gt 27 rfl rfl rfl rfl rfl (op_index_arr rfl te_31 rfl rfl rfl (by omega) ?_))
            first | (refine AOps.gt 28 rfl rfl rfl rfl rfl (op_fieldAddr_m rfl tf_86_1 rfl ?_)) | (refine AOps.gt 28 rfl rfl rfl rfl rfl (op_fieldAddr_c rfl tf_86_1 rfl rfl ?_))
            first | (refine AOps.gt 29 rfl rfl rfl rfl rfl (op_load_m1 (i := 0) rfl ta_3 rfl rfl rfl ?_)) | (refine AOps.gt 29 rfl rfl rfl rfl rfl (op_load_m1 (i := 1) rfl ta_3 rfl rfl rfl ?_)) | (refine AOps.gt 29 rfl rfl rfl rfl rfl (op_load_m1 (i := 2) rfl ta_3 rfl rfl rfl ?_)) | (refine AOps.gt 29 rfl rfl rfl rfl rfl (op_load_m1 (i := 3) rfl ta_3 rfl rfl rfl ?_)) | (refine AOps.gt 29 rfl rfl rfl rfl rfl (op_load_m1 (i := 4) rfl ta_3 rfl rfl rfl ?_)) | (refine AOps.gt 29 rfl rfl rfl rfl rfl (op_load_m1 (i := 5) rfl ta_3 rfl rfl rfl ?_)) | (refine AOps.gt 29 rfl rfl rfl rfl rfl (op_load_m1 (i := 6) rfl ta_3 rfl rfl rfl ?_)) | (refine AOps.gt 29 rfl rfl rfl rfl rfl (op_load_m1 (i := 7) rfl ta_3 rfl rfl rfl ?_)) | (refine AOps.gt 29 rfl rfl rfl rfl rfl (op_load_m1 (i := 8) rfl ta_3 rfl rfl rfl ?_)) | (refine AOps.gt 29 rfl rfl rfl rfl rfl (op_load_m1 (i := 9) rfl ta_3 rfl rfl rfl ?_)) | (refine AOps.gt 29 rfl rfl rfl rfl rfl (op_load_c1 rfl ta_3 rfl rfl ?_))
            refine AOps.gt 30 rfl rfl rfl rfl rfl (op_neq rfl rfl rfl ?_); intro c30 h30
            refine AOps.st 31 rfl rfl rfl (op_pick rfl rfl rfl ?_)
            refine AOps.st 32 rfl rfl rfl (op_move rfl rfl ?_)
            rcases bool_split h30 with ⟨rfl, g30⟩ | ⟨rfl, g30⟩
            · skip
              refine AOps.gt 33 rfl rfl rfl rfl rfl (op_move rfl rfl ?_)
              first | (refine AOps.gt 34 rfl rfl rfl rfl rfl (op_nilCheck_m rfl rfl ?_)) | (refine AOps.gt 34 rfl rfl rfl rfl rfl (op_nilCheck_c rfl rfl ?_)) | (refine AOps.gt 34 rfl rfl rfl rfl rfl (op_nilCheck_f rfl rfl ?_))
              first | (refine AOps.gt 35 rfl rfl rfl rfl rfl (op_fieldAddr_m rfl tf_33_1 rfl ?_)) | (refine AOps.gt 35 rfl rfl rfl rfl rfl (op_fieldAddr_c rfl tf_33_1 rfl rfl ?_))
              first | (refine AOps.gt 36 rfl rfl rfl rfl rfl (op_load_m1 (i := 0) rfl ta_31 rfl rfl rfl ?_)) | (refine AOps.gt 36 rfl rfl rfl rfl rfl (op_load_m1 (i := 1) rfl ta_31 rfl rfl rfl ?_)) | (refine AOps.gt 36 rfl rfl rfl rfl rfl (op_load_m1 (i := 2) rfl ta_31 rfl rfl rfl ?_)) | (refine AOps.gt 36 rfl rfl rfl rfl rfl (op_load_m1 (i := 3) rfl ta_31 rfl rfl rfl ?_)) | (refine AOps.gt 36 rfl rfl rfl rfl rfl (op_load_m1 (i := 4) rfl ta_31 rfl rfl rfl ?_)) | (refine AOps.gt 36 rfl rfl rfl rfl rfl (op_load_m1 (i := 5) rfl ta_31 rfl rfl rfl ?_)) | (refine AOps.gt 36 rfl rfl rfl rfl rfl (op_load_m1 (i := 6) rfl ta_31 rfl rfl rfl ?_)) | (refine AOps.gt 36 rfl rfl rfl rfl rfl (op_load_m1 (i := 7) rfl ta_31 rfl rfl rfl ?_)) | (refine AOps.gt 36 rfl rfl rfl rfl rfl (op_load_m1 (i := 8) rfl ta_31 rfl rfl rfl ?_)) | (refine AOps.gt 36 rfl rfl rfl rfl rfl (op_load_m1 (i := 9) rfl ta_31 rfl rfl rfl ?_)) | (refine AOps.gt 36 rfl rfl rfl rfl rfl (op_load_c1 rfl ta_31 rfl rfl ?_))
              refine AOps.gt 37 rfl rfl rfl rfl rfl (op_move rfl rfl ?_)
              first | (refine AOps.gt 38 rfl rfl rfl rfl rfl (op_index rfl te_31 rfl (.seq _ _) rfl rfl (hgr) ?_)) | (refine AOps.gt 38 rfl rfl rfl rfl rfl (op_index (i := 0) rfl te_31 rfl (.seq _ _) rfl rfl (by first | rfl | assumption) ?_)) | (refine AOps.gt 38 rfl rfl rfl rfl rfl (op_index (i := 1) rfl te_31 rfl (.seq _ _) rfl rfl (by first | rfl | assumption) ?_)) | (refine AOps.gt 38 rfl rfl rfl rfl rfl (op_index rfl te_31 rfl (.own _ _ _) rfl rfl (hgr) ?_)) | (refine AOps.gt 38 rfl rfl rfl rfl rfl (op_index (i := 0) rfl te_31 rfl (.own _ _ _) rfl rfl (by first | rfl | assumption) ?_)) | (refine AOps.gt 38 rfl rfl rfl rfl rfl (op_index (i := 1) rfl te_31 rfl (.own _ _ _) rfl rfl (by first | rfl | assumption) ?_)) | (refine AOps.gt 38 rfl rfl rfl rfl rfl (op_index (i := kk) rfl te_31 rfl (.seq _ _) rfl (by first | rfl | omega) (hgr) ?_)) | (refine AOps.gt 38 rfl rfl rfl rfl rfl (op_index (i := kk) rfl te_31 rfl (.own _ _ _) rfl (by first | rfl | omega) (hgr) ?_)) | (refine AOps.gt 38 rfl rfl rfl rfl rfl (op_index_arr rfl te_31 rfl rfl rfl (by omega) ?_))
              first | (refine AOps.gt 39 rfl rfl rfl rfl rfl (op_fieldAddr_m rfl tf_86_2 rfl ?_)) | (refine AOps.gt 39 rfl rfl rfl rfl rfl (op_fieldAddr_c rfl tf_86_2 rfl rfl ?_))
              first | (refine AOps.gt 40 rfl rfl rfl rfl rfl (op_load_m1 (i := 0) rfl ta_3 rfl rfl rfl ?_)) | (refine AOps.gt 40 rfl rfl rfl rfl rfl (op_load_m1 (i := 1) rfl ta_3 rfl rfl rfl ?_)) | (refine AOps.gt 40 rfl rfl rfl rfl rfl (op_load_m1 (i := 2) rfl ta_3 rfl rfl rfl ?_)) | (refine AOps.gt 40 rfl rfl rfl rfl rfl (op_load_m1 (i := 3) rfl ta_3 rfl rfl rfl ?_)) | (refine AOps.gt 40 rfl rfl rfl rfl rfl (op_load_m1 (i := 4) rfl ta_3 rfl rfl rfl ?_)) | (refine AOps.gt 40 rfl rfl rfl rfl rfl (op_load_m1 (i := 5) rfl ta_3 rfl rfl rfl ?_)) | (refine AOps.gt 40 rfl rfl rfl rfl rfl (op_load_m1 (i := 6) rfl ta_3 rfl rfl rfl ?_)) | (refine AOps.gt 40 rfl rfl rfl rfl rfl (op_load_m1 (i := 7) rfl ta_3 rfl rfl rfl ?_)) | (refine AOps.gt 40 rfl rfl rfl rfl rfl (op_load_m1 (i := 8) rfl ta_3 rfl rfl rfl ?_)) | (refine AOps.gt 40 rfl rfl rfl rfl rfl (op_load_m1 (i := 9) rfl ta_3 rfl rfl rfl ?_)) | (refine AOps.gt 40 rfl rfl rfl rfl rfl (op_load_c1 rfl ta_3 rfl rfl ?_))
              refine AOps.gt 41 rfl rfl rfl rfl rfl (op_neq rfl rfl rfl ?_); intro c41 h41
              refine AOps.st 42 rfl rfl rfl (op_pick rfl rfl rfl ?_)
              refine AOps.nil ?_
              refine BoolQ.mk rfl ?_ (by repeat' (first | exact SLe.wo _ _ | exact SLe.refl _ | refine SLe.fresh rfl ?_)) (by first | exact MLe.none _ | exact MLe.refl _ | (repeat' (first | exact MLe.nil | exact MLe.refl _ | refine MLe.cons _ ?_ | refine MLe.drop _ ?_)))
              first | (simp_all; done) | (simp_all; omega)
            · skip
              refine AOps.gf 33 rfl rfl rfl rfl rfl ?_
              refine AOps.gf 34 rfl rfl rfl rfl rfl ?_
              refine AOps.gf 35 rfl rfl rfl rfl rfl ?_
              refine AOps.gf 36 rfl rfl rfl rfl rfl ?_
              refine AOps.gf 37 rfl rfl rfl rfl rfl ?_
              refine AOps.gf 38 rfl rfl rfl rfl rfl ?_
              refine AOps.gf 39 rfl rfl rfl rfl rfl ?_
              refine AOps.gf 40 rfl rfl rfl rfl rfl ?_
              refine AOps.gf 41 rfl rfl rfl rfl rfl ?_
              refine AOps.st 42 rfl rfl rfl (op_pick rfl rfl rfl ?_)
              refine AOps.nil ?_
              refine BoolQ.mk rfl ?_ (by repeat' (first | exact SLe.wo _ _ | exact SLe.refl _ | refine SLe.fresh rfl ?_)) (by first | exact MLe.none _ | exact MLe.refl _ | (repeat' (first | exact MLe.nil | exact MLe.refl _ | refine MLe.cons _ ?_ | refine MLe.drop _ ?_)))
              first | (simp_all; done) | (simp_all; omega)
          · skip
            refine AOps.gf 22 rfl rfl rfl rfl rfl ?_
            refine AOps.gf 23 rfl rfl rfl rfl rfl ?_
            refine AOps.gf 24 rfl rfl rfl rfl rfl ?_
            refine AOps.gf 25 rfl rfl rfl rfl rfl ?_
            refine AOps.gf 26 rfl rfl rfl rfl rfl ?_
            refine AOps.gf 27 rfl rfl rfl rfl rfl ?_
            refine AOps.gf 28 rfl rfl rfl rfl rfl ?_
            refine AOps.gf 29 rfl rfl rfl rfl rfl ?_
            refine AOps.gf 30 rfl rfl rfl rfl rfl ?_
            refine AOps.st 31 rfl rfl rfl (op_pick rfl rfl rfl ?_)
            refine AOps.st 32 rfl rfl rfl (op_move rfl rfl ?_)
            refine AOps.gf 33 rfl rfl rfl rfl rfl ?_
            refine AOps.gf 34 rfl rfl rfl rfl rfl ?_
            refine AOps.gf 35 rfl rfl rfl rfl rfl ?_
            refine AOps.gf 36 rfl rfl rfl rfl rfl ?_
            refine AOps.gf 37 rfl rfl rfl rfl rfl ?_
            refine AOps.gf 38 rfl rfl rfl rfl rfl ?_
            refine AOps.gf 39 rfl rfl rfl rfl rfl ?_
            refine AOps.gf 40 rfl rfl rfl rfl rfl ?_
            refine AOps.gf 41 rfl rfl rfl rfl rfl ?_
            refine AOps.st 42 rfl rfl rfl (op_pick rfl rfl rfl ?_)
            refine AOps.nil ?_
            refine BoolQ.mk rfl ?_ (by repeat' (first | exact SLe.wo _ _ | exact SLe.refl _ | refine SLe.fresh rfl ?_)) (by first | exact MLe.none _ | exact MLe.refl _ | (repeat' (first | exact MLe.nil | exact MLe.refl _ | refine MLe.cons _ ?_ | refine MLe.drop _ ?_)))
            first | (simp_all; done) | (simp_all; omega)
        intro c42 h42
        refine go_code ?_
        rcases bool_split h42 with ⟨rfl, g42⟩ | ⟨rfl, g42⟩
        · refine c_cond_f rfl ?_
          refine c_skip ?_
          refine go_code ?_
          refine c_seq ?_
          refine c_region ?_
          refine AOps.st 43 rfl rfl rfl (op_move rfl rfl ?_)
          first | (refine AOps.st 44 rfl rfl rfl (op_nilCheck_m rfl rfl ?_)) | (refine AOps.st 44 rfl rfl rfl (op_nilCheck_c rfl rfl ?_)) | (refine AOps.st 44 rfl rfl rfl (op_nilCheck_f rfl rfl ?_))
          first | (refine AOps.st 45 rfl rfl rfl (op_fieldAddr_m rfl tf_33_1 rfl ?_)) | (refine AOps.st 45 rfl rfl rfl (op_fieldAddr_c rfl tf_33_1 rfl rfl ?_))
          first | (refine AOps.st 46 rfl rfl rfl (op_load_m1 (i := 0) rfl ta_31 rfl rfl rfl ?_)) | (refine AOps.st 46 rfl rfl rfl (op_load_m1 (i := 1) rfl ta_31 rfl rfl rfl ?_)) | (refine AOps.st 46 rfl rfl rfl (op_load_m1 (i := 2) rfl ta_31 rfl rfl rfl ?_)) | (refine AOps.st 46 rfl rfl rfl (op_load_m1 (i := 3) rfl ta_31 rfl rfl rfl ?_)) | (refine AOps.st 46 rfl rfl rfl (op_load_m1 (i := 4) rfl ta_31 rfl rfl rfl ?_)) | (refine AOps.st 46 rfl rfl rfl (op_load_m1 (i := 5) rfl ta_31 rfl rfl rfl ?_)) | (refine AOps.st 46 rfl rfl rfl (op_load_m1 (i := 6) rfl ta_31 rfl rfl rfl ?_)) | (refine AOps.st 46 rfl rfl rfl (op_load_m1 (i := 7) rfl ta_31 rfl rfl rfl ?_)) | (refine AOps.st 46 rfl rfl rfl (op_load_m1 (i := 8) rfl ta_31 rfl rfl rfl ?_)) | (refine AOps.st 46 rfl rfl rfl (op_load_m1 (i := 9) rfl ta_31 rfl rfl rfl ?_)) | (refine AOps.st 46 rfl rfl rfl (op_load_c1 rfl ta_31 rfl rfl ?_))
          refine AOps.st 47 rfl rfl rfl (op_move rfl rfl ?_)
          first | (refine AOps.st 48 rfl rfl rfl (op_index rfl te_31 rfl (.seq _ _) rfl rfl (hgr) ?_)) | (refine AOps.st 48 rfl rfl rfl (op_index (i := 0) rfl te_31 rfl (.seq _ _) rfl rfl (by first | rfl | assumption) ?_)) | (refine AOps.st 48 rfl rfl rfl (op_index (i := 1) rfl te_31 rfl (.seq _ _) rfl rfl (by first | rfl | assumption) ?_)) | (refine AOps.st 48 rfl rfl rfl (op_index rfl te_31 rfl (.own _ _ _) rfl rfl (hgr) ?_)) | (refine AOps.st 48 rfl rfl rfl (op_index (i := 0) rfl te_31 rfl (.own _ _ _) rfl rfl (by first | rfl | assumption) ?_)) | (refine AOps.st 48 rfl rfl rfl (op_index (i := 1) rfl te_31 rfl (.own _ _ _) rfl rfl (by first | rfl | assumption) ?_)) | (refine AOps.st 48 rfl rfl rfl (op_index (i := kk) rfl te_31 rfl (.seq _ _) rfl (by first | rfl | omega) (hgr) ?_)) | (refine AOps.st 48 rfl rfl rfl (op_index (i := kk) rfl te_31 rfl (.own _ _ _) rfl (by first | rfl | omega) (hgr) ?_)) | (refine AOps.st 48 rfl rfl rfl (op_index_arr rfl te_31 rfl rfl rfl (by omega) ?_))
          first | (refine AOps.st 49 rfl rfl rfl (op_fieldAddr_m rfl tf_86_3 rfl ?_)) | (refine AOps.st 49 rfl rfl rfl (op_fieldAddr_c rfl tf_86_3 rfl rfl ?_))
          first | (refine AOps.st 50 rfl rfl rfl (op_load_m1 (i := 0) rfl ta_34 rfl rfl rfl ?_)) | (refine AOps.st 50 rfl rfl rfl (op_load_m1 (i := 1) rfl ta_34 rfl rfl rfl ?_)) | (refine AOps.st 50 rfl rfl rfl (op_load_m1 (i := 2) rfl ta_34 rfl rfl rfl ?_)) | (refine AOps.st 50 rfl rfl rfl (op_load_m1 (i := 3) rfl ta_34 rfl rfl rfl ?_)) | (refine AOps.st 50 rfl rfl rfl (op_load_m1 (i := 4) rfl ta_34 rfl rfl rfl ?_)) | (refine AOps.st 50 rfl rfl rfl (op_load_m1 (i := 5) rfl ta_34 rfl rfl rfl ?_)) | (refine AOps.st 50 rfl rfl rfl (op_load_m1 (i := 6) rfl ta_34 rfl rfl rfl ?_)) | (refine AOps.st 50 rfl rfl rfl (op_load_m1 (i := 7) rfl ta_34 rfl rfl rfl ?_)) | (refine AOps.st 50 rfl rfl rfl (op_load_m1 (i := 8) rfl ta_34 rfl rfl rfl ?_)) | (refine AOps.st 50 rfl rfl rfl (op_load_m1 (i := 9) rfl ta_34 rfl rfl rfl ?_)) | (refine AOps.st 50 rfl rfl rfl (op_load_c1 rfl ta_34 rfl rfl ?_))
          refine AOps.st 7 rfl rfl rfl (op_assign rfl rfl ?_)
          refine AOps.nil ?_
          refine go_code ?_
          refine c_seq ?_
          refine c_region ?_
          refine AOps.st 8 rfl rfl rfl (op_assign rfl rfl ?_)
          refine AOps.nil ?_
          refine go_code ?_
          refine c_seq ?_
          refine c_seq ?_
          refine ACode.ownNil (t := 8) 5 1 rfl ?_
          refine c_region ?_
          refine AOps.st 9 rfl rfl rfl (op_assign rfl rfl ?_)
          refine AOps.nil ?_
          refine go_code ?_
          refine c_block ?_
          apply c_loopk [0, 1, 2, 3, 6, 8, 9, 10, 11, 16, 17, 18, 19, 20, 21, 22, 23, 24, 25, 26, 27, 28, 29, 30, 31, 32, 33, 34, 35, 36, 37, 38, 39, 40, 41, 42, 43, 44, 45, 46, 47, 48, 49, 50, 51, 52, 53, 54, 55, 56, 57, 58, 59, 60, 61, 62, 63, 64, 65, 66, 67, 68, 69, 70, 71, 72] (σ := Nat × Value) (fun zz => match zz with | (i, u) => [(8, .own u 1 (u8e (bytesOf ls (8 * i)))), (9, .val (.int .i64 (i + 1)))]) (fun zz => match zz with | (i, u) => [.own 5 1 u, .loc br [.val (.int .i64 sz), .own u0 4 (oRows 1 H)], .own 86 4 u0]) (fun zz => match zz with | (i, u) => i ≤ L) (fun zz => match zz with | (i, u) => L - i) ((0, .slice none 0 0))
          · repeat' (first | exact Drops.nil | apply Drops.keep rfl | apply Drops.skip rfl)
          · exact Nat.zero_le _
          · exact (by repeat' (first | exact SLe.nil _ | refine SLe.cons rfl ?_ ?_ | exact Le.refl _ | exact Le.own _ _ _ | exact Le.nil _ | (refine Le.own_eq ?_; rfl) | (refine Le.own_seq ?_; rfl) | (refine Le.seq_eq ?_; rfl)))
          · exact (by first | exact MLe.none _ | exact MLe.refl _ | (repeat' (first | exact MLe.nil | exact MLe.refl _ | refine MLe.cons _ ?_ | refine MLe.drop _ ?_)))
          rintro ⟨i, u⟩ hI
          try dsimp only [List.cons_append, List.nil_append] at hI ⊢
          refine c_seq ?_
          refine c_seq ?_
          refine c_region ?_
          refine AOps.st 51 rfl rfl rfl (op_move rfl rfl ?_)
          refine AOps.st 52 rfl rfl rfl (op_move rfl rfl ?_)
          first | (refine AOps.st 53 rfl rfl rfl (op_len rfl tu_34 rfl (.seq _ _) (fun n53 => ?_))) | (refine AOps.st 53 rfl rfl rfl (op_len rfl tu_34 rfl (.own _ _ _) (fun n53 => ?_))) | (refine AOps.st 53 rfl rfl rfl (op_len rfl tu_34 rfl (.nil 0) (fun n53 => ?_))) | (refine AOps.st 53 rfl rfl rfl (op_len_arr rfl tu_34 rfl ?_))
          refine AOps.st 54 rfl rfl rfl (op_lss rfl rfl rfl ?_); intro c54 h54
          refine AOps.nil ?_
          refine go_code ?_
          rcases bool_split h54 with ⟨rfl, g54⟩ | ⟨rfl, g54⟩
          · refine c_cond_f rfl ?_
            refine c_exit ?_
            refine x_code ?_
            refine x_lp ?_
            refine x_here ?_
            refine go_code ?_
            refine c_seq ?_
            refine c_seq ?_
            obtain rfl : i = L := by omega
            have hbl : (u8e (bytesOf ls (8 * i))).length = 8 * i := by rw [u8e_len, bytesOf_len]
            refine c_region ?_
            refine AOps.st 12 rfl rfl rfl (op_assign rfl rfl ?_)
            refine AOps.nil ?_
            refine go_code ?_
            refine c_block ?_
            apply c_loopkm [0, 1, 2, 3, 4, 5, 6, 9, 10, 11, 12, 13, 14, 15, 16, 17, 18, 19, 20, 21, 22, 23, 24, 25, 26, 27, 28, 29, 30, 31, 32, 33, 34, 35, 36, 37, 38, 39, 40, 41, 42, 43, 44, 45, 46, 47, 48, 49, 50, 51, 52, 53, 54, 55, 56, 57, 58, 59, 60, 61, 62, 63, 64, 65, 66, 67, 68, 69, 70, 71, 72, 73, 74, 75, 76, 77, 78, 79, 80, 81, 82, 83, 84, 85, 86, 87, 88, 89, 90, 91, 92, 93, 94, 95, 96, 97, 98, 99, 100, 101, 102, 103, 104, 105, 106, 107, 108, 109, 110, 111, 112, 113] (σ := Nat) (fun zz => match zz with | n => [(12, .val (.int .i64 n))]) (fun zz => match zz with | n => n ≤ 8 * i + 1 ∧ ∀ m < n, intW m ≠ p) (fun zz => match zz with | n => 8 * i + 1 - n) (0)
            · repeat' (first | exact Drops.nil | apply Drops.keep rfl | apply Drops.skip rfl)
            · exact ⟨by omega, fun m hm => by omega⟩
            · exact (by repeat' (first | exact SLe.nil _ | refine SLe.cons rfl ?_ ?_ | exact Le.refl _ | exact Le.own _ _ _ | exact Le.nil _))
            rintro n hI
            try dsimp only [List.cons_append, List.nil_append] at hI ⊢
            obtain ⟨hn, hne⟩ := hI
            refine c_seq ?_
            refine c_seq ?_
            refine c_region ?_
            refine AOps.st 73 rfl rfl rfl (op_move rfl rfl ?_)
            refine AOps.st 74 rfl rfl rfl (op_move rfl rfl ?_)
            first | (refine AOps.st 75 rfl rfl rfl (op_len rfl tu_105 rfl (.seq _ _) (fun n75 => ?_))) | (refine AOps.st 75 rfl rfl rfl (op_len rfl tu_105 rfl (.own _ _ _) (fun n75 => ?_))) | (refine AOps.st 75 rfl rfl rfl (op_len rfl tu_105 rfl (.nil 0) (fun n75 => ?_))) | (refine AOps.st 75 rfl rfl rfl (op_len_arr rfl tu_105 rfl ?_))
            refine AOps.st 76 rfl rfl rfl (op_leq rfl rfl rfl ?_); intro c76 h76
            refine AOps.nil ?_
            refine go_code ?_
            rcases bool_split h76 with ⟨rfl, g76⟩ | ⟨rfl, g76⟩
            · refine c_cond_f rfl ?_
              refine c_exit ?_
              refine x_code ?_
              refine x_lp ?_
              refine x_here ?_
              refine go_code ?_
              refine c_seq ?_
              have hq := hnot (fun m hm hwm => absurd hwm (hne m (by omega)))
              refine c_region ?_
              refine AOps.st 4 rfl rfl rfl (op_assign rfl rfl ?_)
              refine AOps.st 5 rfl rfl rfl (op_assign rfl rfl ?_)
              refine AOps.nil ?_
              refine go_code ?_
              refine c_ret ?_
              exact out_tt rfl rfl rfl (Le.tup (Les.cons (Le.seqt (by rw [hq]; rfl)) (Les.cons (Le.beq (by rw [hq]; rfl)) (Les.refl _)))) (by first | exact MLe.none _ | exact MLe.refl _ | (repeat' (first | exact MLe.nil | exact MLe.refl _ | refine MLe.cons _ ?_ | refine MLe.drop _ ?_))) ⟨rfl, rfl⟩
            · refine c_cond_t rfl ?_
              refine c_skip ?_
              refine go_code ?_
              refine c_seq ?_
              refine c_block ?_
              refine c_seq ?_
              refine c_drawn tmix rfl ?_
              refine DOps.st 79 rfl rfl (op_move rfl rfl ⟨rfl, rfl⟩) ?_
              refine DOps.st 80 rfl rfl (op_callp (xs := [.tmp 79]) rfl rfl (rInt_p n) (by first | exact Les.refl _ | (repeat' (first | exact Les.refl _ | refine Les.cons ?_ ?_ | exact Le.refl _ | exact Le.own _ _ _ | exact Le.nil _ | refine Le.agg ?_))) ⟨rfl, rfl⟩) ?_
              refine DOps.st 81 rfl rfl (op_move rfl rfl ⟨rfl, rfl⟩) ?_
              first | (refine DOps.st 82 rfl rfl (op_index rfl te_34 rfl (.seq _ _) rfl rfl (rfl) ⟨rfl, rfl⟩) ?_) | (refine DOps.st 82 rfl rfl (op_index (i := 0) rfl te_34 rfl (.seq _ _) rfl rfl (by first | rfl | assumption) ⟨rfl, rfl⟩) ?_) | (refine DOps.st 82 rfl rfl (op_index (i := 1) rfl te_34 rfl (.seq _ _) rfl rfl (by first | rfl | assumption) ⟨rfl, rfl⟩) ?_) | (refine DOps.st 82 rfl rfl (op_index rfl te_34 rfl (.own _ _ _) rfl rfl (rfl) ⟨rfl, rfl⟩) ?_) | (refine DOps.st 82 rfl rfl (op_index (i := 0) rfl te_34 rfl (.own _ _ _) rfl rfl (by first | rfl | assumption) ⟨rfl, rfl⟩) ?_) | (refine DOps.st 82 rfl rfl (op_index (i := 1) rfl te_34 rfl (.own _ _ _) rfl rfl (by first | rfl | assumption) ⟨rfl, rfl⟩) ?_) | (refine DOps.st 82 rfl rfl (op_index (i := 0) rfl te_34 rfl (.seq _ _) rfl (by first | rfl | omega) (rfl) ⟨rfl, rfl⟩) ?_) | (refine DOps.st 82 rfl rfl (op_index (i := 0) rfl te_34 rfl (.own _ _ _) rfl (by first | rfl | omega) (rfl) ⟨rfl, rfl⟩) ?_) | (refine DOps.st 82 rfl rfl (op_index_arr rfl te_34 rfl rfl rfl (by omega) ⟨rfl, rfl⟩) ?_)
              first | (refine DOps.st 83 rfl rfl (op_load_m1 (i := 0) rfl ta_42 rfl rfl rfl ⟨rfl, rfl⟩) ?_) | (refine DOps.st 83 rfl rfl (op_load_m1 (i := 1) rfl ta_42 rfl rfl rfl ⟨rfl, rfl⟩) ?_) | (refine DOps.st 83 rfl rfl (op_load_m1 (i := 2) rfl ta_42 rfl rfl rfl ⟨rfl, rfl⟩) ?_) | (refine DOps.st 83 rfl rfl (op_load_m1 (i := 3) rfl ta_42 rfl rfl rfl ⟨rfl, rfl⟩) ?_) | (refine DOps.st 83 rfl rfl (op_load_m1 (i := 4) rfl ta_42 rfl rfl rfl ⟨rfl, rfl⟩) ?_) | (refine DOps.st 83 rfl rfl (op_load_m1 (i := 5) rfl ta_42 rfl rfl rfl ⟨rfl, rfl⟩) ?_) | (refine DOps.st 83 rfl rfl (op_load_m1 (i := 6) rfl ta_42 rfl rfl rfl ⟨rfl, rfl⟩) ?_) | (refine DOps.st 83 rfl rfl (op_load_m1 (i := 7) rfl ta_42 rfl rfl rfl ⟨rfl, rfl⟩) ?_) | (refine DOps.st 83 rfl rfl (op_load_m1 (i := 8) rfl ta_42 rfl rfl rfl ⟨rfl, rfl⟩) ?_) | (refine DOps.st 83 rfl rfl (op_load_m1 (i := 9) rfl ta_42 rfl rfl rfl ⟨rfl, rfl⟩) ?_) | (refine DOps.st 83 rfl rfl (op_load_c1 rfl ta_42 rfl rfl ⟨rfl, rfl⟩) ?_)
              refine DOps.cm 84 rfl rfl (fun _ q => op_eql rfl rfl rfl q) ?_; intro c84 h84
              show AGo _ _ _ _ _ _ _
              refine go_code ?_
              rcases bool_split h84 with ⟨rfl, g84⟩ | ⟨rfl, g84⟩
              · refine c_cond_f rfl ?_
                refine c_skip ?_
                refine go_blk ?_
                refine go_code ?_
                refine c_region ?_
                refine AOps.st 77 rfl rfl rfl (op_move rfl rfl ?_)
                first | (refine AOps.st 78 rfl rfl rfl (op_add rfl rfl rfl (IntWalk.i64_in _ (by omega)) ?_)) | (refine AOps.st 78 rfl rfl rfl (op_add rfl rfl rfl rfl ?_))
                refine AOps.st 12 rfl rfl rfl (op_assign rfl rfl ?_)
                refine AOps.nil ?_
                refine go_lp ?_
                refine ⟨n + 1, ⟨by omega, fun m hm => ?_⟩, by show 8 * i + 1 - (n + 1) < 8 * i + 1 - n; omega, (by repeat' (first | exact SLe.nil _ | refine SLe.cons rfl ?_ ?_ | exact Le.refl _ | exact Le.own _ _ _ | exact Le.nil _)), (by first | exact MLe.none _ | exact MLe.refl _ | (repeat' (first | exact MLe.nil | exact MLe.refl _ | refine MLe.cons _ ?_ | refine MLe.drop _ ?_)))⟩
                rcases Nat.lt_or_ge m n with q | q
                · exact hne m q
                · obtain rfl : m = n := by omega
                  omega
              · refine c_cond_t rfl ?_
                refine c_seq ?_
                have hwn : intW n = p := by omega
                have hcut : (u8e (bytesOf ls (8 * i))).take n = bts ((bytesOf ls n).map fun k : Nat => (k : Int)) := by rw [← u8e_bts, u8e, ← List.map_take, bytesOf_take ls n (8 * i) (by omega)]; rfl
                have hn8 : n ≤ 8 * i := by omega
                obtain ⟨pk, hpk⟩ : ∃ pk, packL (bytesOf ls n) = pk := ⟨_, rfl⟩
                have hbn : bytesN (strN (bytesOf ls n)) = bytesOf ls n := bytesN_strN _ (fun x hx => by
                  obtain ⟨i, _, rfl⟩ := List.mem_map.1 hx
                  exact byteAt_lt _ _)
                have hye : pk = ls → gT = some (strN (bytesOf ls n)) := fun q => hyes n (by omega) hwn (by rw [hpk, q])
                have hno : pk ≠ ls → gT = none := fun q => hnot (fun m hm hwm => by
                  obtain rfl : m = n := intW_inj (by omega) (by omega) (by rw [hwm, hwn])
                  rw [hpk]; exact q)
                have hPC := (rPack_o (strN (bytesOf ls n)) (by rw [strN_size, bytesOf_len]; omega)).pure
                rw [hbn, hpk] at hPC
                have hpkl : (pk.map ivN).length = pk.length := by simp
                refine c_region ?_
                refine AOps.st 85 rfl rfl rfl (op_move rfl rfl ?_)
                refine AOps.st 86 rfl rfl rfl (op_move rfl rfl ?_)
                first | (refine AOps.st 87 rfl rfl rfl (op_cuth rfl te_105 rfl (.seq _ _) rfl rfl (by omega) ?_)) | (refine AOps.st 87 rfl rfl rfl (op_cuth rfl te_105 rfl (.own _ _ _) rfl rfl (by omega) ?_))
                refine AOps.st 88 rfl rfl rfl (op_bytestra (xs := (bytesOf ls n).map fun k : Nat => (k : Int)) rfl tu_105 tu_5 tu_9 rfl (by rw [← hcut]; exact .seq 1 _) ?_)
                refine AOps.st 13 rfl rfl rfl (op_assign rfl rfl ?_)
                refine AOps.nil ?_
                refine go_code ?_
                refine c_seq ?_
                refine c_region ?_
                refine AOps.st 89 rfl rfl rfl (op_move rfl rfl ?_)
                refine AOps.st 90 rfl rfl rfl (op_callp (xs := [.tmp 89]) rfl rfl (hPC) (by first | exact Les.refl _ | (repeat' (first | exact Les.refl _ | refine Les.cons ?_ ?_ | exact Le.refl _ | exact Le.own _ _ _ | exact Le.nil _ | refine Le.agg ?_))) ?_)
                refine AOps.st 14 rfl rfl rfl (op_assign rfl rfl ?_)
                refine AOps.nil ?_
                refine go_code ?_
                refine c_seq ?_
                refine c_seq ?_
                refine c_region ?_
                refine AOps.st 91 rfl rfl rfl (op_move rfl rfl ?_)
                first | (refine AOps.st 92 rfl rfl rfl (op_len rfl tu_34 rfl (.seq _ _) (fun n92 => ?_))) | (refine AOps.st 92 rfl rfl rfl (op_len rfl tu_34 rfl (.own _ _ _) (fun n92 => ?_))) | (refine AOps.st 92 rfl rfl rfl (op_len rfl tu_34 rfl (.nil 0) (fun n92 => ?_))) | (refine AOps.st 92 rfl rfl rfl (op_len_arr rfl tu_34 rfl ?_))
                refine AOps.st 93 rfl rfl rfl (op_move rfl rfl ?_)
                first | (refine AOps.st 94 rfl rfl rfl (op_len rfl tu_34 rfl (.seq _ _) (fun n94 => ?_))) | (refine AOps.st 94 rfl rfl rfl (op_len rfl tu_34 rfl (.own _ _ _) (fun n94 => ?_))) | (refine AOps.st 94 rfl rfl rfl (op_len rfl tu_34 rfl (.nil 0) (fun n94 => ?_))) | (refine AOps.st 94 rfl rfl rfl (op_len_arr rfl tu_34 rfl ?_))
                first | (refine AOps.st 95 rfl rfl rfl (op_sub rfl rfl rfl (IntWalk.i64_in _ (by omega)) ?_)) | (refine AOps.st 95 rfl rfl rfl (op_sub rfl rfl rfl rfl ?_))
                refine AOps.st 96 rfl rfl rfl (op_neq rfl rfl rfl ?_); intro c96 h96
                refine AOps.nil ?_
                refine go_code ?_
                rcases bool_split h96 with ⟨rfl, g96⟩ | ⟨rfl, g96⟩
                · refine c_cond_f rfl ?_
                  refine c_skip ?_
                  refine go_code ?_
                  refine c_seq ?_
                  refine c_seq ?_
                  refine c_region ?_
                  refine AOps.st 15 rfl rfl rfl (op_assign rfl rfl ?_)
                  refine AOps.nil ?_
                  refine go_code ?_
                  refine c_block ?_
                  apply c_loopkm [0, 1, 2, 3, 4, 5, 6, 9, 10, 11, 15, 16, 17, 18, 19, 20, 21, 22, 23, 24, 25, 26, 27, 28, 29, 30, 31, 32, 33, 34, 35, 36, 37, 38, 39, 40, 41, 42, 43, 44, 45, 46, 47, 48, 49, 50, 51, 52, 53, 54, 55, 56, 57, 58, 59, 60, 61, 62, 63, 64, 65, 66, 67, 68, 69, 70, 71, 72, 97, 98, 99, 100, 101, 102, 103, 104, 105, 106, 107, 108, 109, 110, 111, 112] (σ := Nat) (fun zz => match zz with | k => [(15, .val (.int .i64 k))]) (fun zz => match zz with | k => k ≤ pk.length ∧ ∀ m < k, pk[m]? = ls[m]?) (fun zz => match zz with | k => pk.length - k) (0)
                  · repeat' (first | exact Drops.nil | apply Drops.keep rfl | apply Drops.skip rfl)
                  · exact ⟨by omega, fun m hm => by omega⟩
                  · exact (by repeat' (first | exact SLe.nil _ | refine SLe.cons rfl ?_ ?_ | exact Le.refl _ | exact Le.own _ _ _ | exact Le.nil _))
                  rintro k hI
                  try dsimp only [List.cons_append, List.nil_append] at hI ⊢
                  obtain ⟨hkk, hke⟩ := hI
                  refine c_seq ?_
                  refine c_seq ?_
                  refine c_region ?_
                  refine AOps.st 97 rfl rfl rfl (op_move rfl rfl ?_)
                  refine AOps.st 98 rfl rfl rfl (op_move rfl rfl ?_)
                  first | (refine AOps.st 99 rfl rfl rfl (op_len rfl tu_34 rfl (.seq _ _) (fun n99 => ?_))) | (refine AOps.st 99 rfl rfl rfl (op_len rfl tu_34 rfl (.own _ _ _) (fun n99 => ?_))) | (refine AOps.st 99 rfl rfl rfl (op_len rfl tu_34 rfl (.nil 0) (fun n99 => ?_))) | (refine AOps.st 99 rfl rfl rfl (op_len_arr rfl tu_34 rfl ?_))
                  refine AOps.st 100 rfl rfl rfl (op_lss rfl rfl rfl ?_); intro c100 h100
                  refine AOps.nil ?_
                  refine go_code ?_
                  rcases bool_split h100 with ⟨rfl, g100⟩ | ⟨rfl, g100⟩
                  · refine c_cond_f rfl ?_
                    refine c_exit ?_
                    refine x_code ?_
                    refine x_lp ?_
                    refine x_here ?_
                    refine go_code ?_
                    refine c_seq ?_
                    have hq := hye (by
                      apply List.ext_getElem?
                      intro m
                      rcases Nat.lt_or_ge m k with q | q
                      · exact hke m q
                      · rw [List.getElem?_eq_none (by omega), List.getElem?_eq_none (by omega)])
                    refine c_region ?_
                    refine AOps.st 113 rfl rfl rfl (op_move rfl rfl ?_)
                    refine AOps.st 4 rfl rfl rfl (op_assign rfl rfl ?_)
                    refine AOps.st 5 rfl rfl rfl (op_assign rfl rfl ?_)
                    refine AOps.nil ?_
                    refine go_code ?_
                    refine c_ret ?_
                    exact out_tt rfl rfl rfl (Le.tup (Les.cons (Le.seqt (by rw [hq]; rfl)) (Les.cons (Le.beq (by rw [hq]; rfl)) (Les.refl _)))) (by first | exact MLe.none _ | exact MLe.refl _ | (repeat' (first | exact MLe.nil | exact MLe.refl _ | refine MLe.cons _ ?_ | refine MLe.drop _ ?_))) ⟨rfl, rfl⟩
                  · refine c_cond_t rfl ?_
                    refine c_skip ?_
                    refine go_code ?_
                    refine c_seq ?_
                    refine c_block ?_
                    refine c_seq ?_
                    obtain ⟨x, hx⟩ := getk (l := pk) (i := k) (by omega)
                    obtain ⟨z, hz⟩ := getk (l := ls) (i := k) (by omega)
                    have hxg : (pk.map ivN)[k]? = some (ivN x) := by rw [List.getElem?_map, hx]; rfl
                    have hzg := hgx k z hz
                    refine c_drawn tmix rfl ?_
                    refine DOps.st 103 rfl rfl (op_move rfl rfl ⟨rfl, rfl⟩) ?_
                    refine DOps.st 104 rfl rfl (op_move rfl rfl ⟨rfl, rfl⟩) ?_
                    first | (refine DOps.st 105 rfl rfl (op_index rfl te_34 rfl (.seq _ _) rfl rfl (by first | exact hxg | exact hzg) ⟨rfl, rfl⟩) ?_) | (refine DOps.st 105 rfl rfl (op_index (i := 0) rfl te_34 rfl (.seq _ _) rfl rfl (by first | rfl | assumption) ⟨rfl, rfl⟩) ?_) | (refine DOps.st 105 rfl rfl (op_index (i := 1) rfl te_34 rfl (.seq _ _) rfl rfl (by first | rfl | assumption) ⟨rfl, rfl⟩) ?_) | (refine DOps.st 105 rfl rfl (op_index rfl te_34 rfl (.own _ _ _) rfl rfl (by first | exact hxg | exact hzg) ⟨rfl, rfl⟩) ?_) | (refine DOps.st 105 rfl rfl (op_index (i := 0) rfl te_34 rfl (.own _ _ _) rfl rfl (by first | rfl | assumption) ⟨rfl, rfl⟩) ?_) | (refine DOps.st 105 rfl rfl (op_index (i := 1) rfl te_34 rfl (.own _ _ _) rfl rfl (by first | rfl | assumption) ⟨rfl, rfl⟩) ?_) | (refine DOps.st 105 rfl rfl (op_index (i := k) rfl te_34 rfl (.seq _ _) rfl (by first | rfl | omega) (by first | exact hxg | exact hzg) ⟨rfl, rfl⟩) ?_) | (refine DOps.st 105 rfl rfl (op_index (i := k + 1) rfl te_34 rfl (.seq _ _) rfl (by first | rfl | omega) (by first | exact hxg | exact hzg) ⟨rfl, rfl⟩) ?_) | (refine DOps.st 105 rfl rfl (op_index (i := k) rfl te_34 rfl (.own _ _ _) rfl (by first | rfl | omega) (by first | exact hxg | exact hzg) ⟨rfl, rfl⟩) ?_) | (refine DOps.st 105 rfl rfl (op_index (i := k + 1) rfl te_34 rfl (.own _ _ _) rfl (by first | rfl | omega) (by first | exact hxg | exact hzg) ⟨rfl, rfl⟩) ?_) | (refine DOps.st 105 rfl rfl (op_index_arr rfl te_34 rfl rfl rfl (by omega) ⟨rfl, rfl⟩) ?_)
                    first | (refine DOps.st 106 rfl rfl (op_load_m1 (i := 0) rfl ta_42 rfl rfl rfl ⟨rfl, rfl⟩) ?_) | (refine DOps.st 106 rfl rfl (op_load_m1 (i := 1) rfl ta_42 rfl rfl rfl ⟨rfl, rfl⟩) ?_) | (refine DOps.st 106 rfl rfl (op_load_m1 (i := 2) rfl ta_42 rfl rfl rfl ⟨rfl, rfl⟩) ?_) | (refine DOps.st 106 rfl rfl (op_load_m1 (i := 3) rfl ta_42 rfl rfl rfl ⟨rfl, rfl⟩) ?_) | (refine DOps.st 106 rfl rfl (op_load_m1 (i := 4) rfl ta_42 rfl rfl rfl ⟨rfl, rfl⟩) ?_) | (refine DOps.st 106 rfl rfl (op_load_m1 (i := 5) rfl ta_42 rfl rfl rfl ⟨rfl, rfl⟩) ?_) | (refine DOps.st 106 rfl rfl (op_load_m1 (i := 6) rfl ta_42 rfl rfl rfl ⟨rfl, rfl⟩) ?_) | (refine DOps.st 106 rfl rfl (op_load_m1 (i := 7) rfl ta_42 rfl rfl rfl ⟨rfl, rfl⟩) ?_) | (refine DOps.st 106 rfl rfl (op_load_m1 (i := 8) rfl ta_42 rfl rfl rfl ⟨rfl, rfl⟩) ?_) | (refine DOps.st 106 rfl rfl (op_load_m1 (i := 9) rfl ta_42 rfl rfl rfl ⟨rfl, rfl⟩) ?_) | (refine DOps.st 106 rfl rfl (op_load_c1 rfl ta_42 rfl rfl ⟨rfl, rfl⟩) ?_)
                    refine DOps.st 107 rfl rfl (op_move rfl rfl ⟨rfl, rfl⟩) ?_
                    refine DOps.st 108 rfl rfl (op_move rfl rfl ⟨rfl, rfl⟩) ?_
                    first | (refine DOps.st 109 rfl rfl (op_add rfl rfl rfl (IntWalk.i64_in _ (by omega)) ⟨rfl, rfl⟩) ?_) | (refine DOps.st 109 rfl rfl (op_add rfl rfl rfl rfl ⟨rfl, rfl⟩) ?_)
                    first | (refine DOps.st 110 rfl rfl (op_index rfl te_34 rfl (.seq _ _) rfl rfl (by first | exact hxg | exact hzg) ⟨rfl, rfl⟩) ?_) | (refine DOps.st 110 rfl rfl (op_index (i := 0) rfl te_34 rfl (.seq _ _) rfl rfl (by first | rfl | assumption) ⟨rfl, rfl⟩) ?_) | (refine DOps.st 110 rfl rfl (op_index (i := 1) rfl te_34 rfl (.seq _ _) rfl rfl (by first | rfl | assumption) ⟨rfl, rfl⟩) ?_) | (refine DOps.st 110 rfl rfl (op_index rfl te_34 rfl (.own _ _ _) rfl rfl (by first | exact hxg | exact hzg) ⟨rfl, rfl⟩) ?_) | (refine DOps.st 110 rfl rfl (op_index (i := 0) rfl te_34 rfl (.own _ _ _) rfl rfl (by first | rfl | assumption) ⟨rfl, rfl⟩) ?_) | (refine DOps.st 110 rfl rfl (op_index (i := 1) rfl te_34 rfl (.own _ _ _) rfl rfl (by first | rfl | assumption) ⟨rfl, rfl⟩) ?_) | (refine DOps.st 110 rfl rfl (op_index (i := k) rfl te_34 rfl (.seq _ _) rfl (by first | rfl | omega) (by first | exact hxg | exact hzg) ⟨rfl, rfl⟩) ?_) | (refine DOps.st 110 rfl rfl (op_index (i := k + 1) rfl te_34 rfl (.seq _ _) rfl (by first | rfl | omega) (by first | exact hxg | exact hzg) ⟨rfl, rfl⟩) ?_) | (refine DOps.st 110 rfl rfl (op_index (i := k) rfl te_34 rfl (.own _ _ _) rfl (by first | rfl | omega) (by first | exact hxg | exact hzg) ⟨rfl, rfl⟩) ?_) | (refine DOps.st 110 rfl rfl (op_index (i := k + 1) rfl te_34 rfl (.own _ _ _) rfl (by first | rfl | omega) (by first | exact hxg | exact hzg) ⟨rfl, rfl⟩) ?_) | (refine DOps.st 110 rfl rfl (op_index_arr rfl te_34 rfl rfl rfl (by omega) ⟨rfl, rfl⟩) ?_)
                    first | (refine DOps.st 111 rfl rfl (op_load_m1 (i := 0) rfl ta_42 rfl rfl rfl ⟨rfl, rfl⟩) ?_) | (refine DOps.st 111 rfl rfl (op_load_m1 (i := 1) rfl ta_42 rfl rfl rfl ⟨rfl, rfl⟩) ?_) | (refine DOps.st 111 rfl rfl (op_load_m1 (i := 2) rfl ta_42 rfl rfl rfl ⟨rfl, rfl⟩) ?_) | (refine DOps.st 111 rfl rfl (op_load_m1 (i := 3) rfl ta_42 rfl rfl rfl ⟨rfl, rfl⟩) ?_) | (refine DOps.st 111 rfl rfl (op_load_m1 (i := 4) rfl ta_42 rfl rfl rfl ⟨rfl, rfl⟩) ?_) | (refine DOps.st 111 rfl rfl (op_load_m1 (i := 5) rfl ta_42 rfl rfl rfl ⟨rfl, rfl⟩) ?_) | (refine DOps.st 111 rfl rfl (op_load_m1 (i := 6) rfl ta_42 rfl rfl rfl ⟨rfl, rfl⟩) ?_) | (refine DOps.st 111 rfl rfl (op_load_m1 (i := 7) rfl ta_42 rfl rfl rfl ⟨rfl, rfl⟩) ?_) | (refine DOps.st 111 rfl rfl (op_load_m1 (i := 8) rfl ta_42 rfl rfl rfl ⟨rfl, rfl⟩) ?_) | (refine DOps.st 111 rfl rfl (op_load_m1 (i := 9) rfl ta_42 rfl rfl rfl ⟨rfl, rfl⟩) ?_) | (refine DOps.st 111 rfl rfl (op_load_c1 rfl ta_42 rfl rfl ⟨rfl, rfl⟩) ?_)
                    refine DOps.cm 112 rfl rfl (fun _ q => op_neq rfl rfl rfl q) ?_; intro c112 h112
                    show AGo _ _ _ _ _ _ _
                    refine go_code ?_
                    rcases bool_split h112 with ⟨rfl, g112⟩ | ⟨rfl, g112⟩
                    · refine c_cond_f rfl ?_
                      refine c_skip ?_
                      refine go_blk ?_
                      refine go_code ?_
                      refine c_region ?_
                      refine AOps.st 101 rfl rfl rfl (op_move rfl rfl ?_)
                      first | (refine AOps.st 102 rfl rfl rfl (op_add rfl rfl rfl (IntWalk.i64_in _ (by omega)) ?_)) | (refine AOps.st 102 rfl rfl rfl (op_add rfl rfl rfl rfl ?_))
                      refine AOps.st 15 rfl rfl rfl (op_assign rfl rfl ?_)
                      refine AOps.nil ?_
                      refine go_lp ?_
                      refine ⟨k + 1, ⟨by have := get_lt hx; omega, fun m hm => ?_⟩, by have := get_lt hx; show pk.length - (k + 1) < pk.length - k; omega, (by repeat' (first | exact SLe.nil _ | refine SLe.cons rfl ?_ ?_ | exact Le.refl _ | exact Le.own _ _ _ | exact Le.nil _)), (by first | exact MLe.none _ | exact MLe.refl _ | (repeat' (first | exact MLe.nil | exact MLe.refl _ | refine MLe.cons _ ?_ | refine MLe.drop _ ?_)))⟩
                      rcases Nat.lt_or_ge m k with q | q
                      · exact hke m q
                      · obtain rfl : m = k := by omega
                        rw [hx, hz]
                        congr 1
                        omega
                    · refine c_cond_t rfl ?_
                      refine c_seq ?_
                      have hq := hno (fun e => by subst e; rw [hx] at hz; cases hz; omega)
                      refine c_region ?_
                      refine AOps.st 4 rfl rfl rfl (op_assign rfl rfl ?_)
                      refine AOps.st 5 rfl rfl rfl (op_assign rfl rfl ?_)
                      refine AOps.nil ?_
                      refine go_code ?_
                      refine c_ret ?_
                      exact out_tt rfl rfl rfl (Le.tup (Les.cons (Le.seqt (by rw [hq]; rfl)) (Les.cons (Le.beq (by rw [hq]; rfl)) (Les.refl _)))) (by first | exact MLe.none _ | exact MLe.refl _ | (repeat' (first | exact MLe.nil | exact MLe.refl _ | refine MLe.cons _ ?_ | refine MLe.drop _ ?_))) ⟨rfl, rfl⟩
                · refine c_cond_t rfl ?_
                  refine c_seq ?_
                  have hq := hno (fun e => by subst e; omega)
                  refine c_region ?_
                  refine AOps.st 4 rfl rfl rfl (op_assign rfl rfl ?_)
                  refine AOps.st 5 rfl rfl rfl (op_assign rfl rfl ?_)
                  refine AOps.nil ?_
                  refine go_code ?_
                  refine c_ret ?_
                  exact out_tt rfl rfl rfl (Le.tup (Les.cons (Le.seqt (by rw [hq]; rfl)) (Les.cons (Le.beq (by rw [hq]; rfl)) (Les.refl _)))) (by first | exact MLe.none _ | exact MLe.refl _ | (repeat' (first | exact MLe.nil | exact MLe.refl _ | refine MLe.cons _ ?_ | refine MLe.drop _ ?_))) ⟨rfl, rfl⟩
          · refine c_cond_t rfl ?_
            refine c_skip ?_
            refine go_code ?_
            refine c_seq ?_
            refine c_block ?_
            refine c_seq ?_
            obtain ⟨x, hx⟩ := getk (l := ls) (i := i) (by omega)
            have hgx2 := hgx i x hx
            have hxl := hgl i x hx
            refine c_region ?_
            refine AOps.st 57 rfl rfl rfl (op_move rfl rfl ?_)
            refine AOps.st 58 rfl rfl rfl (op_move rfl rfl ?_)
            first | (refine AOps.st 59 rfl rfl rfl (op_index rfl te_34 rfl (.seq _ _) rfl rfl (hgx2) ?_)) | (refine AOps.st 59 rfl rfl rfl (op_index (i := 0) rfl te_34 rfl (.seq _ _) rfl rfl (by first | rfl | assumption) ?_)) | (refine AOps.st 59 rfl rfl rfl (op_index (i := 1) rfl te_34 rfl (.seq _ _) rfl rfl (by first | rfl | assumption) ?_)) | (refine AOps.st 59 rfl rfl rfl (op_index rfl te_34 rfl (.own _ _ _) rfl rfl (hgx2) ?_)) | (refine AOps.st 59 rfl rfl rfl (op_index (i := 0) rfl te_34 rfl (.own _ _ _) rfl rfl (by first | rfl | assumption) ?_)) | (refine AOps.st 59 rfl rfl rfl (op_index (i := 1) rfl te_34 rfl (.own _ _ _) rfl rfl (by first | rfl | assumption) ?_)) | (refine AOps.st 59 rfl rfl rfl (op_index (i := i + 1) rfl te_34 rfl (.seq _ _) rfl (by first | rfl | omega) (hgx2) ?_)) | (refine AOps.st 59 rfl rfl rfl (op_index (i := i + 1) rfl te_34 rfl (.own _ _ _) rfl (by first | rfl | omega) (hgx2) ?_)) | (refine AOps.st 59 rfl rfl rfl (op_index_arr rfl te_34 rfl rfl rfl (by omega) ?_))
            first | (refine AOps.st 60 rfl rfl rfl (op_load_m1 (i := 0) rfl ta_42 rfl rfl rfl ?_)) | (refine AOps.st 60 rfl rfl rfl (op_load_m1 (i := 1) rfl ta_42 rfl rfl rfl ?_)) | (refine AOps.st 60 rfl rfl rfl (op_load_m1 (i := 2) rfl ta_42 rfl rfl rfl ?_)) | (refine AOps.st 60 rfl rfl rfl (op_load_m1 (i := 3) rfl ta_42 rfl rfl rfl ?_)) | (refine AOps.st 60 rfl rfl rfl (op_load_m1 (i := 4) rfl ta_42 rfl rfl rfl ?_)) | (refine AOps.st 60 rfl rfl rfl (op_load_m1 (i := 5) rfl ta_42 rfl rfl rfl ?_)) | (refine AOps.st 60 rfl rfl rfl (op_load_m1 (i := 6) rfl ta_42 rfl rfl rfl ?_)) | (refine AOps.st 60 rfl rfl rfl (op_load_m1 (i := 7) rfl ta_42 rfl rfl rfl ?_)) | (refine AOps.st 60 rfl rfl rfl (op_load_m1 (i := 8) rfl ta_42 rfl rfl rfl ?_)) | (refine AOps.st 60 rfl rfl rfl (op_load_m1 (i := 9) rfl ta_42 rfl rfl rfl ?_)) | (refine AOps.st 60 rfl rfl rfl (op_load_c1 rfl ta_42 rfl rfl ?_))
            refine AOps.st 10 rfl rfl rfl (op_assign rfl rfl ?_)
            refine AOps.nil ?_
            refine go_code ?_
            refine c_seq ?_
            refine c_region ?_
            refine AOps.st 11 rfl rfl rfl (op_assign rfl rfl ?_)
            refine AOps.nil ?_
            refine go_code ?_
            refine c_block ?_
            apply c_loopk [0, 1, 2, 3, 6, 8, 10, 11, 16, 17, 18, 19, 20, 21, 22, 23, 24, 25, 26, 27, 28, 29, 30, 31, 32, 33, 34, 35, 36, 37, 38, 39, 40, 41, 42, 43, 44, 45, 46, 47, 48, 49, 50, 61, 62, 63, 64, 65, 66, 67, 68, 69, 70, 71, 72] (σ := Nat × Value × Nat) (fun zz => match zz with | (j, u, y) => [(8, .own u 1 (u8e (bytesOf ls (8 * i + j)))), (10, .val (.int .u64 (y : Nat))), (11, .val (.int .i64 j))]) (fun zz => match zz with | (j, u, y) => [.own 5 1 u, .loc br [.val (.int .i64 sz), .own u0 4 (oRows 1 H)], .own 86 4 u0]) (fun zz => match zz with | (j, u, y) => j ≤ 8 ∧ y = x / 256 ^ j ∧ y ≤ 18446744073709551615) (fun zz => match zz with | (j, u, y) => 8 - j) ((0, u, x))
            · repeat' (first | exact Drops.nil | apply Drops.keep rfl | apply Drops.skip rfl)
            · exact ⟨by omega, by simp, hxl⟩
            · exact (by repeat' (first | exact SLe.nil _ | refine SLe.cons rfl ?_ ?_ | exact Le.refl _ | exact Le.own _ _ _ | exact Le.nil _))
            · exact (by first | exact MLe.none _ | exact MLe.refl _ | (repeat' (first | exact MLe.nil | exact MLe.refl _ | refine MLe.cons _ ?_ | refine MLe.drop _ ?_)))
            rintro ⟨j, u, y⟩ hI
            try dsimp only [List.cons_append, List.nil_append] at hI ⊢
            obtain ⟨hj, hy, hyl⟩ := hI
            refine c_seq ?_
            refine c_seq ?_
            refine c_region ?_
            refine AOps.st 61 rfl rfl rfl (op_move rfl rfl ?_)
            refine AOps.st 62 rfl rfl rfl (op_lss rfl rfl rfl ?_); intro c62 h62
            refine AOps.nil ?_
            refine go_code ?_
            rcases bool_split h62 with ⟨rfl, g62⟩ | ⟨rfl, g62⟩
            · refine c_cond_f rfl ?_
              refine c_exit ?_
              refine x_code ?_
              refine x_lp ?_
              refine x_here ?_
              refine go_blk ?_
              refine go_code ?_
              obtain rfl : j = 8 := by omega
              refine c_region ?_
              refine AOps.st 55 rfl rfl rfl (op_move rfl rfl ?_)
              first | (refine AOps.st 56 rfl rfl rfl (op_add rfl rfl rfl (IntWalk.i64_in _ (by omega)) ?_)) | (refine AOps.st 56 rfl rfl rfl (op_add rfl rfl rfl rfl ?_))
              refine AOps.st 9 rfl rfl rfl (op_assign rfl rfl ?_)
              refine AOps.nil ?_
              refine go_lp ?_
              exact ⟨(i + 1, u), by show i + 1 ≤ L; have := get_lt hx; omega, by show L - (i + 1) < L - i; have := get_lt hx; omega, (by repeat' (first | exact SLe.nil _ | refine SLe.cons rfl ?_ ?_ | exact Le.refl _ | exact Le.own _ _ _ | exact Le.nil _)), (by first | exact MLe.none _ | exact MLe.refl _ | (repeat' (first | exact MLe.nil | exact MLe.refl _ | refine MLe.cons _ ?_ | refine MLe.drop _ ?_)))⟩
            · refine c_cond_t rfl ?_
              refine c_skip ?_
              refine go_code ?_
              refine c_seq ?_
              refine c_block ?_
              refine c_seq ?_
              have hle : (u8e (bytesOf ls (8 * i + j))).length ≤ 100000000 := by rw [u8e_len, bytesOf_len]; omega
              refine c_region ?_
              refine AOps.st 65 rfl rfl rfl (op_move rfl rfl ?_)
              refine AOps.st 66 rfl rfl rfl (op_move rfl rfl ?_)
              first | (refine AOps.st 67 rfl rfl rfl (op_rem rfl rfl rfl (by omega) (Int.tmod_eq_emod_of_nonneg (by omega)) ?_)) | (refine AOps.st 67 rfl rfl rfl (op_rem rfl rfl rfl (by omega) rfl ?_))
              first | (refine AOps.st 68 rfl rfl rfl (op_convert rfl tu_42 tu_5 rfl (IntWalk.u8_in _ (by omega)) ?_)) | (refine AOps.st 68 rfl rfl rfl (op_convert rfl tu_42 tu_5 rfl rfl ?_))
              refine AOps.st 69 rfl rfl rfl (op_buildSlice (xs := [.tmp 68]) el_105 rfl rfl rfl rfl rfl rfl (Nat.le_of_ble_eq_true rfl) ?_)
              first | (refine AOps.st 70 rfl rfl rfl (op_append (i := 0) el_105 rfl rfl rfl rfl (.seq _ _) (by first | (simp; done) | (simp; omega) | omega) ?_)) | (refine AOps.st 70 rfl rfl rfl (op_append (i := 1) el_105 rfl rfl rfl rfl (.seq _ _) (by first | (simp; done) | (simp; omega) | omega) ?_)) | (refine AOps.st 70 rfl rfl rfl (op_append (i := 2) el_105 rfl rfl rfl rfl (.seq _ _) (by first | (simp; done) | (simp; omega) | omega) ?_)) | (refine AOps.st 70 rfl rfl rfl (op_append (i := 3) el_105 rfl rfl rfl rfl (.seq _ _) (by first | (simp; done) | (simp; omega) | omega) ?_)) | (refine AOps.st 70 rfl rfl rfl (op_append (i := 4) el_105 rfl rfl rfl rfl (.seq _ _) (by first | (simp; done) | (simp; omega) | omega) ?_)) | (refine AOps.st 70 rfl rfl rfl (op_append (i := 5) el_105 rfl rfl rfl rfl (.seq _ _) (by first | (simp; done) | (simp; omega) | omega) ?_)) | (refine AOps.st 70 rfl rfl rfl (op_append (i := 0) el_105 rfl rfl rfl rfl (.own _ _ _) (by first | (simp; done) | (simp; omega) | omega) ?_)) | (refine AOps.st 70 rfl rfl rfl (op_append (i := 1) el_105 rfl rfl rfl rfl (.own _ _ _) (by first | (simp; done) | (simp; omega) | omega) ?_)) | (refine AOps.st 70 rfl rfl rfl (op_append (i := 2) el_105 rfl rfl rfl rfl (.own _ _ _) (by first | (simp; done) | (simp; omega) | omega) ?_)) | (refine AOps.st 70 rfl rfl rfl (op_append (i := 3) el_105 rfl rfl rfl rfl (.own _ _ _) (by first | (simp; done) | (simp; omega) | omega) ?_)) | (refine AOps.st 70 rfl rfl rfl (op_append (i := 4) el_105 rfl rfl rfl rfl (.own _ _ _) (by first | (simp; done) | (simp; omega) | omega) ?_)) | (refine AOps.st 70 rfl rfl rfl (op_append (i := 5) el_105 rfl rfl rfl rfl (.own _ _ _) (by first | (simp; done) | (simp; omega) | omega) ?_)) | (refine AOps.st 70 rfl rfl rfl (op_append (i := 0) el_105 rfl rfl rfl rfl (.nil _) (by first | (simp; done) | (simp; omega) | omega) ?_)) | (refine AOps.st 70 rfl rfl rfl (op_append (i := 1) el_105 rfl rfl rfl rfl (.nil _) (by first | (simp; done) | (simp; omega) | omega) ?_)) | (refine AOps.st 70 rfl rfl rfl (op_append (i := 2) el_105 rfl rfl rfl rfl (.nil _) (by first | (simp; done) | (simp; omega) | omega) ?_)) | (refine AOps.st 70 rfl rfl rfl (op_append (i := 3) el_105 rfl rfl rfl rfl (.nil _) (by first | (simp; done) | (simp; omega) | omega) ?_)) | (refine AOps.st 70 rfl rfl rfl (op_append (i := 4) el_105 rfl rfl rfl rfl (.nil _) (by first | (simp; done) | (simp; omega) | omega) ?_)) | (refine AOps.st 70 rfl rfl rfl (op_append (i := 5) el_105 rfl rfl rfl rfl (.nil _) (by first | (simp; done) | (simp; omega) | omega) ?_)) | (refine AOps.st 70 rfl rfl rfl (op_append_nil el_105 rfl rfl rfl (.seq _ _) (by first | (simp; done) | (simp; omega) | omega) ?_)) | (refine AOps.st 70 rfl rfl rfl (op_append_nil el_105 rfl rfl rfl (.own _ _ _) (by first | (simp; done) | (simp; omega) | omega) ?_)) | (refine AOps.st 70 rfl rfl rfl (op_append_nil el_105 rfl rfl rfl (.nil _) (by first | (simp; done) | (simp; omega) | omega) ?_))
              intro u70
              refine AOps.st 8 rfl rfl rfl (op_assign rfl rfl ?_)
              refine AOps.nil ?_
              refine go_code ?_
              refine c_region ?_
              refine AOps.st 71 rfl rfl rfl (op_move rfl rfl ?_)
              first | (refine AOps.st 72 rfl rfl rfl (op_quo rfl rfl rfl (by omega) (IntWalk.u64_quo _ _ (by omega)) ?_)) | (refine AOps.st 72 rfl rfl rfl (op_quo rfl rfl rfl (by omega) rfl ?_))
              refine AOps.st 10 rfl rfl rfl (op_assign rfl rfl ?_)
              refine AOps.nil ?_
              refine go_blk ?_
              refine go_code ?_
              refine c_region ?_
              refine AOps.st 63 rfl rfl rfl (op_move rfl rfl ?_)
              first | (refine AOps.st 64 rfl rfl rfl (op_add rfl rfl rfl (IntWalk.i64_in _ (by omega)) ?_)) | (refine AOps.st 64 rfl rfl rfl (op_add rfl rfl rfl rfl ?_))
              refine AOps.st 11 rfl rfl rfl (op_assign rfl rfl ?_)
              refine AOps.nil ?_
              refine go_lp ?_
              refine ⟨(j + 1, u70, y / 256), ⟨by show j + 1 ≤ 8; omega, by show y / 256 = _; rw [hy, Nat.div_div_eq_div_mul, Nat.pow_succ], by show y / 256 ≤ _; omega⟩, by show 8 - (j + 1) < 8 - j; omega, SLe.cons rfl (Le.own_eq ?_) (SLe.cons rfl (Le.ieq (show ((y : Int) / 256) = ((y / 256 : Nat) : Int) by omega)) (by repeat' (first | exact SLe.nil _ | refine SLe.cons rfl ?_ ?_ | exact Le.refl _ | exact Le.own _ _ _ | exact Le.nil _))), (by first | exact MLe.none _ | exact MLe.refl _ | (repeat' (first | exact MLe.nil | exact MLe.refl _ | refine MLe.cons _ ?_ | refine MLe.drop _ ?_)))⟩
              rw [show 8 * i + (j + 1) = (8 * i + j) + 1 by omega, bytesOf_next, byteAt_word ls i j x (by omega) hx, ← hy]
              simp [u8e, AV.cells]
        · refine c_cond_t rfl ?_
          refine c_seq ?_
          exact g42.elim
    · have hg : getT H (2 * ((adr H kk : Nat) : Int)) = none := by
        unfold getT
        rw [ho]
        simp only
        rw [if_neg]
        rintro ⟨⟨h1, h2, _⟩, _⟩
        exact hk ⟨h1, h2⟩
      rw [hg]
      obtain ⟨kd, tg, ps⟩ := o
      simp only at hk
      refine ACall.enter Try.func32 rfl (by kernel_rfl) rfl (Nat.le_of_ble_eq_true rfl) ?_
      refine c_start ?_
      refine c_seq ?_
      refine c_region ?_
      refine AOps.st 4 rfl rfl rfl (op_assign rfl rfl ?_)
      refine AOps.st 5 rfl rfl rfl (op_assign rfl rfl ?_)
      refine AOps.nil ?_
      refine go_code ?_
      refine c_seq ?_
      refine c_region ?_
      refine AOps.st 16 rfl rfl rfl (op_move rfl rfl ?_)
      refine AOps.st 17 rfl rfl rfl (op_move rfl rfl ?_)
      refine AOps.st 18 rfl rfl rfl (op_callk (xs := [.tmp 16, .tmp 17]) [0,0] rfl rfl rfl (hF) (by first | exact Les.refl _ | (repeat' (first | exact Les.refl _ | refine Les.cons ?_ ?_ | exact Le.refl _ | exact Le.own _ _ _ | exact Le.nil _ | refine Le.agg ?_))) ?_)
      refine AOps.st 6 rfl rfl rfl (op_assign rfl rfl ?_)
      refine AOps.nil ?_
      refine go_code ?_
      refine c_seq ?_
      refine c_seq ?_
      refine c_bool 42 (True) ?_ _ _ rfl ?_
      · skip
        refine AOps.st 19 rfl rfl rfl (op_move rfl rfl ?_)
        refine AOps.st 20 rfl rfl rfl (op_lss rfl rfl rfl ?_); intro c20 h20
        refine AOps.st 21 rfl rfl rfl (op_move rfl rfl ?_)
        rcases bool_split h20 with ⟨rfl, g20⟩ | ⟨rfl, g20⟩
        · skip
          refine AOps.gt 22 rfl rfl rfl rfl rfl (op_move rfl rfl ?_)
          first | (refine AOps.gt 23 rfl rfl rfl rfl rfl (op_nilCheck_m rfl rfl ?_)) | (refine AOps.gt 23 rfl rfl rfl rfl rfl (op_nilCheck_c rfl rfl ?_)) | (refine AOps.gt 23 rfl rfl rfl rfl rfl (op_nilCheck_f rfl rfl ?_))
          first | (refine AOps.gt 24 rfl rfl rfl rfl rfl (op_fieldAddr_m rfl tf_33_1 rfl ?_)) | (refine AOps.gt 24 rfl rfl rfl rfl rfl (op_fieldAddr_c rfl tf_33_1 rfl rfl ?_))
          first | (refine AOps.gt 25 rfl rfl rfl rfl rfl (op_load_m1 (i := 0) rfl ta_31 rfl rfl rfl ?_)) | (refine AOps.gt 25 rfl rfl rfl rfl rfl (op_load_m1 (i := 1) rfl ta_31 rfl rfl rfl ?_)) | (refine AOps.gt 25 rfl rfl rfl rfl rfl (op_load_m1 (i := 2) rfl ta_31 rfl rfl rfl ?_)) | (refine AOps.gt 25 rfl rfl rfl rfl rfl (op_load_m1 (i := 3) rfl ta_31 rfl rfl rfl ?_)) | (refine AOps.gt 25 rfl rfl rfl rfl rfl (op_load_m1 (i := 4) rfl ta_31 rfl rfl rfl ?_)) | (refine AOps.gt 25 rfl rfl rfl rfl rfl (op_load_m1 (i := 5) rfl ta_31 rfl rfl rfl ?_)) | (refine AOps.gt 25 rfl rfl rfl rfl rfl (op_load_m1 (i := 6) rfl ta_31 rfl rfl rfl ?_)) | (refine AOps.gt 25 rfl rfl rfl rfl rfl (op_load_m1 (i := 7) rfl ta_31 rfl rfl rfl ?_)) | (refine AOps.gt 25 rfl rfl rfl rfl rfl (op_load_m1 (i := 8) rfl ta_31 rfl rfl rfl ?_)) | (refine AOps.gt 25 rfl rfl rfl rfl rfl (op_load_m1 (i := 9) rfl ta_31 rfl rfl rfl ?_)) | (refine AOps.gt 25 rfl rfl rfl rfl rfl (op_load_c1 rfl ta_31 rfl rfl ?_))
          refine AOps.gt 26 rfl rfl rfl rfl rfl (op_move rfl rfl ?_)
          first | (refine AOps.gt 27 rfl rfl rfl rfl rfl (op_index rfl te_31 rfl (.seq _ _) rfl rfl (hgr) ?_)) | (refine AOps.gt 27 rfl rfl rfl rfl rfl (op_index (i := 0) rfl te_31 rfl (.seq _ _) rfl rfl (by first | rfl | assumption) ?_)) | (refine AOps.gt 27 rfl rfl rfl rfl rfl (op_index (i := 1) rfl te_31 rfl (.seq _ _) rfl rfl (by first | rfl | assumption) ?_)) | (refine AOps.gt 27 rfl rfl rfl rfl rfl (op_index rfl te_31 rfl (.own _ _ _) rfl rfl (hgr) ?_)) | (refine AOps.gt 27 rfl rfl rfl rfl rfl (op_index (i := 0) rfl te_31 rfl (.own _ _ _) rfl rfl (by first | rfl | assumption) ?_)) | (refine AOps.gt 27 rfl rfl rfl rfl rfl (op_index (i := 1) rfl te_31 rfl (.own _ _ _) rfl rfl (by first | rfl | assumption) ?_)) | (refine AOps.gt 27 rfl rfl rfl rfl rfl (op_index (i := kk) rfl te_31 rfl (.seq _ _) rfl (by first | rfl | omega) (hgr) ?_)) | (refine AOps.gt 27 rfl rfl rfl rfl rfl (op_index (i := kk) rfl te_31 rfl (.own _ _ _) rfl (by first | rfl | omega) (hgr) ?_)) | (refine AOps.gt 27 rfl rfl rfl rfl rfl (op_index_arr rfl te_31 rfl rfl rfl (by omega) ?_))
          first | (refine AOps.gt 28 rfl rfl rfl rfl rfl (op_fieldAddr_m rfl tf_86_1 rfl ?_)) | (refine AOps.gt 28 rfl rfl rfl rfl rfl (op_fieldAddr_c rfl tf_86_1 rfl rfl ?_))
          first | (refine AOps.gt 29 rfl rfl rfl rfl rfl (op_load_m1 (i := 0) rfl ta_3 rfl rfl rfl ?_)) | (refine AOps.gt 29 rfl rfl rfl rfl rfl (op_load_m1 (i := 1) rfl ta_3 rfl rfl rfl ?_)) | (refine AOps.gt 29 rfl rfl rfl rfl rfl (op_load_m1 (i := 2) rfl ta_3 rfl rfl rfl ?_)) | (refine AOps.gt 29 rfl rfl rfl rfl rfl (op_load_m1 (i := 3) rfl ta_3 rfl rfl rfl ?_)) | (refine AOps.gt 29 rfl rfl rfl rfl rfl (op_load_m1 (i := 4) rfl ta_3 rfl rfl rfl ?_)) | (refine AOps.gt 29 rfl rfl rfl rfl rfl (op_load_m1 (i := 5) rfl ta_3 rfl rfl rfl ?_)) | (refine AOps.gt 29 rfl rfl rfl rfl rfl (op_load_m1 (i := 6) rfl ta_3 rfl rfl rfl ?_)) | (refine AOps.gt 29 rfl rfl rfl rfl rfl (op_load_m1 (i := 7) rfl ta_3 rfl rfl rfl ?_)) | (refine AOps.gt 29 rfl rfl rfl rfl rfl (op_load_m1 (i := 8) rfl ta_3 rfl rfl rfl ?_)) | (refine AOps.gt 29 rfl rfl rfl rfl rfl (op_load_m1 (i := 9) rfl ta_3 rfl rfl rfl ?_)) | (refine AOps.gt 29 rfl rfl rfl rfl rfl (op_load_c1 rfl ta_3 rfl rfl ?_))
          refine AOps.gt 30 rfl rfl rfl rfl rfl (op_neq rfl rfl rfl ?_); intro c30 h30
          refine AOps.st 31 rfl rfl rfl (op_pick rfl rfl rfl ?_)
          refine AOps.st 32 rfl rfl rfl (op_move rfl rfl ?_)
          rcases bool_split h30 with ⟨rfl, g30⟩ | ⟨rfl, g30⟩
          · skip
            refine AOps.gt 33 rfl rfl rfl rfl rfl (op_move rfl rfl ?_)
            first | (refine AOps.gt 34 rfl rfl rfl rfl rfl (op_nilCheck_m rfl rfl ?_)) | (refine AOps.gt 34 rfl rfl rfl rfl rfl (op_nilCheck_c rfl rfl ?_)) | (refine AOps.gt 34 rfl rfl rfl rfl rfl (op_nilCheck_f rfl rfl ?_))
            first | (refine AOps.gt 35 rfl rfl rfl rfl rfl (op_fieldAddr_m rfl tf_33_1 rfl ?_)) | (refine AOps.gt 35 rfl rfl rfl rfl rfl (op_fieldAddr_c rfl tf_33_1 rfl rfl ?_))
            first | (refine AOps.gt 36 rfl rfl rfl rfl rfl (op_load_m1 (i := 0) rfl ta_31 rfl rfl rfl ?_)) | (refine AOps.gt 36 rfl rfl rfl rfl rfl (op_load_m1 (i := 1) rfl ta_31 rfl rfl rfl ?_)) | (refine AOps.gt 36 rfl rfl rfl rfl rfl (op_load_m1 (i := 2) rfl ta_31 rfl rfl rfl ?_)) | (refine AOps.gt 36 rfl rfl rfl rfl rfl (op_load_m1 (i := 3) rfl ta_31 rfl rfl rfl ?_)) | (refine AOps.gt 36 rfl rfl rfl rfl rfl (op_load_m1 (i := 4) rfl ta_31 rfl rfl rfl ?_)) | (refine AOps.gt 36 rfl rfl rfl rfl rfl (op_load_m1 (i := 5) rfl ta_31 rfl rfl rfl ?_)) | (refine AOps.gt 36 rfl rfl rfl rfl rfl (op_load_m1 (i := 6) rfl ta_31 rfl rfl rfl ?_)) | (refine AOps.gt 36 rfl rfl rfl rfl rfl (op_load_m1 (i := 7) rfl ta_31 rfl rfl rfl ?_)) | (refine AOps.gt 36 rfl rfl rfl rfl rfl (op_load_m1 (i := 8) rfl ta_31 rfl rfl rfl ?_)) | (refine AOps.gt 36 rfl rfl rfl rfl rfl (op_load_m1 (i := 9) rfl ta_31 rfl rfl rfl ?_)) | (refine AOps.gt 36 rfl rfl rfl rfl rfl (op_load_c1 rfl ta_31 rfl rfl ?_))
            refine AOps.gt 37 rfl rfl rfl rfl rfl (op_move rfl rfl ?_)
            first | (refine AOps.gt 38 rfl rfl rfl rfl rfl (op_index rfl te_31 rfl (.seq _ _) rfl rfl (hgr) ?_)) | (refine AOps.gt 38 rfl rfl rfl rfl rfl (op_index (i := 0) rfl te_31 rfl (.seq _ _) rfl rfl (by first | rfl | assumption) ?_)) | (refine AOps.gt 38 rfl rfl rfl rfl rfl (op_index (i := 1) rfl te_31 rfl (.seq _ _) rfl rfl (by first | rfl | assumption) ?_)) | (refine AOps.gt 38 rfl rfl rfl rfl rfl (op_index rfl te_31 rfl (.own _ _ _) rfl rfl (hgr) ?_)) | (refine AOps.gt 38 rfl rfl rfl rfl rfl (op_index (i := 0) rfl te_31 rfl (.own _ _ _) rfl rfl (by first | rfl | assumption) ?_)) | (refine AOps.gt 38 rfl rfl rfl rfl rfl (op_index (i := 1) rfl te_31 rfl (.own _ _ _) rfl rfl (by first | rfl | assumption) ?_)) | (refine AOps.gt 38 rfl rfl rfl rfl rfl (op_index (i := kk) rfl te_31 rfl (.seq _ _) rfl (by first | rfl | omega) (hgr) ?_)) | (refine AOps.gt 38 rfl rfl rfl rfl rfl (op_index (i := kk) rfl te_31 rfl (.own _ _ _) rfl (by first | rfl | omega) (hgr) ?_)) | (refine AOps.gt 38 rfl rfl rfl rfl rfl (op_index_arr rfl te_31 rfl rfl rfl (by omega) ?_))
            first | (refine AOps.gt 39 rfl rfl rfl rfl rfl (op_fieldAddr_m rfl tf_86_2 rfl ?_)) | (refine AOps.gt 39 rfl rfl rfl rfl rfl (op_fieldAddr_c rfl tf_86_2 rfl rfl ?_))
            first | (refine AOps.gt 40 rfl rfl rfl rfl rfl (op_load_m1 (i := 0) rfl ta_3 rfl rfl rfl ?_)) | (refine AOps.gt 40 rfl rfl rfl rfl rfl (op_load_m1 (i := 1) rfl ta_3 rfl rfl rfl ?_)) | (refine AOps.gt 40 rfl rfl rfl rfl rfl (op_load_m1 (i := 2) rfl ta_3 rfl rfl rfl ?_)) | (refine AOps.gt 40 rfl rfl rfl rfl rfl (op_load_m1 (i := 3) rfl ta_3 rfl rfl rfl ?_)) | (refine AOps.gt 40 rfl rfl rfl rfl rfl (op_load_m1 (i := 4) rfl ta_3 rfl rfl rfl ?_)) | (refine AOps.gt 40 rfl rfl rfl rfl rfl (op_load_m1 (i := 5) rfl ta_3 rfl rfl rfl ?_)) | (refine AOps.gt 40 rfl rfl rfl rfl rfl (op_load_m1 (i := 6) rfl ta_3 rfl rfl rfl ?_)) | (refine AOps.gt 40 rfl rfl rfl rfl rfl (op_load_m1 (i := 7) rfl ta_3 rfl rfl rfl ?_)) | (refine AOps.gt 40 rfl rfl rfl rfl rfl (op_load_m1 (i := 8) rfl ta_3 rfl rfl rfl ?_)) | (refine AOps.gt 40 rfl rfl rfl rfl rfl (op_load_m1 (i := 9) rfl ta_3 rfl rfl rfl ?_)) | (refine AOps.gt 40 rfl rfl rfl rfl rfl (op_load_c1 rfl ta_3 rfl rfl ?_))
            refine AOps.gt 41 rfl rfl rfl rfl rfl (op_neq rfl rfl rfl ?_); intro c41 h41
            refine AOps.st 42 rfl rfl rfl (op_pick rfl rfl rfl ?_)
            refine AOps.nil ?_
            refine BoolQ.mk rfl ?_ (by repeat' (first | exact SLe.wo _ _ | exact SLe.refl _ | refine SLe.fresh rfl ?_)) (by first | exact MLe.none _ | exact MLe.refl _ | (repeat' (first | exact MLe.nil | exact MLe.refl _ | refine MLe.cons _ ?_ | refine MLe.drop _ ?_)))
            first | (simp_all; done) | (simp_all; omega) | grind
          · skip
            refine AOps.gf 33 rfl rfl rfl rfl rfl ?_
            refine AOps.gf 34 rfl rfl rfl rfl rfl ?_
            refine AOps.gf 35 rfl rfl rfl rfl rfl ?_
            refine AOps.gf 36 rfl rfl rfl rfl rfl ?_
            refine AOps.gf 37 rfl rfl rfl rfl rfl ?_
            refine AOps.gf 38 rfl rfl rfl rfl rfl ?_
            refine AOps.gf 39 rfl rfl rfl rfl rfl ?_
            refine AOps.gf 40 rfl rfl rfl rfl rfl ?_
            refine AOps.gf 41 rfl rfl rfl rfl rfl ?_
            refine AOps.st 42 rfl rfl rfl (op_pick rfl rfl rfl ?_)
            refine AOps.nil ?_
            refine BoolQ.mk rfl ?_ (by repeat' (first | exact SLe.wo _ _ | exact SLe.refl _ | refine SLe.fresh rfl ?_)) (by first | exact MLe.none _ | exact MLe.refl _ | (repeat' (first | exact MLe.nil | exact MLe.refl _ | refine MLe.cons _ ?_ | refine MLe.drop _ ?_)))
            first | (simp_all; done) | (simp_all; omega) | grind
        · skip
          refine AOps.gf 22 rfl rfl rfl rfl rfl ?_
          refine AOps.gf 23 rfl rfl rfl rfl rfl ?_
          refine AOps.gf 24 rfl rfl rfl rfl rfl ?_
          refine AOps.gf 25 rfl rfl rfl rfl rfl ?_
          refine AOps.gf 26 rfl rfl rfl rfl rfl ?_
          refine AOps.gf 27 rfl rfl rfl rfl rfl ?_
          refine AOps.gf 28 rfl rfl rfl rfl rfl ?_
          refine AOps.gf 29 rfl rfl rfl rfl rfl ?_
          refine AOps.gf 30 rfl rfl rfl rfl rfl ?_
          refine AOps.st 31 rfl rfl rfl (op_pick rfl rfl rfl ?_)
          refine AOps.st 32 rfl rfl rfl (op_move rfl rfl ?_)
          refine AOps.gf 33 rfl rfl rfl rfl rfl ?_
          refine AOps.gf 34 rfl rfl rfl rfl rfl ?_
          refine AOps.gf 35 rfl rfl rfl rfl rfl ?_
          refine AOps.gf 36 rfl rfl rfl rfl rfl ?_
          refine AOps.gf 37 rfl rfl rfl rfl rfl ?_
          refine AOps.gf 38 rfl rfl rfl rfl rfl ?_
          refine AOps.gf 39 rfl rfl rfl rfl rfl ?_
          refine AOps.gf 40 rfl rfl rfl rfl rfl ?_
          refine AOps.gf 41 rfl rfl rfl rfl rfl ?_
          refine AOps.st 42 rfl rfl rfl (op_pick rfl rfl rfl ?_)
          refine AOps.nil ?_
          refine BoolQ.mk rfl ?_ (by repeat' (first | exact SLe.wo _ _ | exact SLe.refl _ | refine SLe.fresh rfl ?_)) (by first | exact MLe.none _ | exact MLe.refl _ | (repeat' (first | exact MLe.nil | exact MLe.refl _ | refine MLe.cons _ ?_ | refine MLe.drop _ ?_)))
          first | (simp_all; done) | (simp_all; omega) | grind
      intro c42 h42
      refine go_code ?_
      rcases bool_split h42 with ⟨rfl, g42⟩ | ⟨rfl, g42⟩
      · refine c_cond_f rfl ?_
        refine c_skip ?_
        refine go_code ?_
        refine c_seq ?_
        exact absurd trivial g42
      · refine c_cond_t rfl ?_
        refine c_seq ?_
        refine c_region ?_
        refine AOps.st 4 rfl rfl rfl (op_assign rfl rfl ?_)
        refine AOps.st 5 rfl rfl rfl (op_assign rfl rfl ?_)
        refine AOps.nil ?_
        refine go_code ?_
        refine c_ret ?_
        exact out_tt rfl rfl rfl (Le.refl _) (by first | exact MLe.none _ | exact MLe.refl _ | (repeat' (first | exact MLe.nil | exact MLe.refl _ | refine MLe.cons _ ?_ | refine MLe.drop _ ?_))) ⟨rfl, rfl⟩
end Go.Proofs.Ytecpnlhjjmcllaa
