/- strs: Need, Put, words, Get, Len, two, Cat; cognateref32.Need, Put. -/
import Derived.Test.YtecpnlhjjmcllaaP32
import Derived.Test.YtecpnlhjjmcllaaB32r
namespace Go.Proofs.Ytecpnlhjjmcllaa
open Go.RowKit
theorem HeapAt.three {b : Nat} {sz : Int} {H : List HO} {M : Mem} (h : HeapAt b sz H M) : ∃ r0 r1 r2, M = [r0, r1, r2] := by
  obtain ⟨_, _, _, _, _, _, _, rfl⟩ := h
  exact ⟨_, _, _, rfl⟩
theorem RefAt.two {b : Nat} {sz : Int} {H : List HO} {M : Mem} (h : RefAt b sz H M) : ∃ r0 r1, M = [r0, r1] := by
  obtain ⟨_, rfl⟩ := h
  exact ⟨_, _, rfl⟩
set_option maxHeartbeats 4000000 in
set_option maxRecDepth 100000 in
theorem Need_c (n : Int) (h : n ≤ 9000000000000000000) (hl : -9223372036854775808 ≤ n) : PCall Try.prog 29 [.val (.int .i64 n)] (.val (.int .i64 (need n))) := by
  have hm : (0 : Int) ≤ max n 0 ∧ max n 0 ≤ 9000000000000000000 := by omega
  unfold need
  refine ACall.enter Try.func29 rfl (by kernel_rfl) rfl (Nat.le_of_ble_eq_true rfl) ?_
  refine c_start ?_
  refine c_seq ?_
  refine c_region ?_
  refine AOps.st 2 rfl rfl rfl (op_assign rfl rfl ?_)
  refine AOps.nil ?_
  refine go_code ?_
  refine c_seq ?_
  refine c_region ?_
  refine AOps.st 4 rfl rfl rfl (op_move rfl rfl ?_)
  refine AOps.st 5 rfl rfl rfl (op_max rfl rfl rfl ?_)
  refine AOps.st 0 rfl rfl rfl (op_assign rfl rfl ?_)
  refine AOps.nil ?_
  refine go_code ?_
  refine c_seq ?_
  refine c_region ?_
  refine AOps.st 6 rfl rfl rfl (op_move rfl rfl ?_)
  first | (refine AOps.st 7 rfl rfl rfl (op_quo rfl rfl rfl (by omega) (IntWalk.i64_quo _ _ (by omega)) ?_)) | (refine AOps.st 7 rfl rfl rfl (op_quo rfl rfl rfl (by omega) rfl ?_))
  refine AOps.st 3 rfl rfl rfl (op_assign rfl rfl ?_)
  refine AOps.nil ?_
  refine go_code ?_
  refine c_seq ?_
  refine c_seq ?_
  refine c_region ?_
  refine AOps.st 8 rfl rfl rfl (op_move rfl rfl ?_)
  first | (refine AOps.st 9 rfl rfl rfl (op_rem rfl rfl rfl (by omega) (Int.tmod_eq_emod_of_nonneg (by omega)) ?_)) | (refine AOps.st 9 rfl rfl rfl (op_rem rfl rfl rfl (by omega) rfl ?_))
  refine AOps.st 10 rfl rfl rfl (op_gtr rfl rfl rfl ?_); intro c10 h10
  refine AOps.nil ?_
  refine go_code ?_
  apply c_joinkm [0, 1, 3, 4, 5, 6, 7, 8, 9, 10, 11, 12] (σ := Unit) (fun zz => match zz with | z => [(3, .val (.int .i64 ((max n 0 + 7) / 8)))]) (fun zz => match zz with | z => True)
  · repeat' (first | exact Drops.nil | apply Drops.keep rfl | apply Drops.skip rfl)
  · skip
    rcases bool_split h10 with ⟨rfl, g10⟩ | ⟨rfl, g10⟩
    · refine c_cond_f rfl ?_
      refine c_skip ?_
      refine go_lp ?_
      exact ⟨(), trivial, SLe.cons rfl (Le.ieq (by omega)) (by repeat' (first | exact SLe.nil _ | refine SLe.cons rfl ?_ ?_ | exact Le.refl _ | exact Le.own _ _ _ | exact Le.nil _)), (by first | exact MLe.none _ | exact MLe.refl _ | (repeat' (first | exact MLe.nil | exact MLe.refl _ | refine MLe.cons _ ?_ | refine MLe.drop _ ?_)))⟩
    · refine c_cond_t rfl ?_
      refine c_region ?_
      refine AOps.st 11 rfl rfl rfl (op_move rfl rfl ?_)
      first | (refine AOps.st 12 rfl rfl rfl (op_add rfl rfl rfl (IntWalk.i64_in _ (by omega)) ?_)) | (refine AOps.st 12 rfl rfl rfl (op_add rfl rfl rfl rfl ?_))
      refine AOps.st 3 rfl rfl rfl (op_assign rfl rfl ?_)
      refine AOps.nil ?_
      refine go_lp ?_
      exact ⟨(), trivial, SLe.cons rfl (Le.ieq (by omega)) (by repeat' (first | exact SLe.nil _ | refine SLe.cons rfl ?_ ?_ | exact Le.refl _ | exact Le.own _ _ _ | exact Le.nil _)), (by first | exact MLe.none _ | exact MLe.refl _ | (repeat' (first | exact MLe.nil | exact MLe.refl _ | refine MLe.cons _ ?_ | refine MLe.drop _ ?_)))⟩
  rintro z hI
  try dsimp only [List.cons_append, List.nil_append] at hI ⊢
  refine go_code ?_
  refine c_seq ?_
  refine c_region ?_
  refine AOps.st 13 rfl rfl rfl (op_move rfl rfl ?_)
  first | (refine AOps.st 14 rfl rfl rfl (op_add rfl rfl rfl (IntWalk.i64_in _ (by omega)) ?_)) | (refine AOps.st 14 rfl rfl rfl (op_add rfl rfl rfl rfl ?_))
  refine AOps.st 2 rfl rfl rfl (op_assign rfl rfl ?_)
  refine AOps.nil ?_
  refine go_code ?_
  refine c_ret ?_
  exact out_tmp rfl rfl (Le.refl _) (by first | exact MLe.none _ | exact MLe.refl _ | (repeat' (first | exact MLe.nil | exact MLe.refl _ | refine MLe.cons _ ?_ | refine MLe.drop _ ?_))) ⟨rfl, rfl⟩
set_option maxHeartbeats 4000000 in
set_option maxRecDepth 100000 in
theorem rNeed_c (n : Int) (h : n ≤ 1000000000) : PCall Try.prog 30 [.val (.int .i64 n)] (.val (.int .i64 (need n))) := by
  refine ACall.enter Try.func30 rfl (by kernel_rfl) rfl (Nat.le_of_ble_eq_true rfl) ?_
  refine c_start ?_
  refine c_seq ?_
  refine c_region ?_
  refine AOps.st 2 rfl rfl rfl (op_assign rfl rfl ?_)
  refine AOps.nil ?_
  refine go_code ?_
  refine c_seq ?_
  refine c_region ?_
  refine AOps.st 3 rfl rfl rfl (op_assign rfl rfl ?_)
  refine AOps.nil ?_
  refine go_code ?_
  refine c_seq ?_
  refine c_seq ?_
  refine c_region ?_
  refine AOps.st 4 rfl rfl rfl (op_assign rfl rfl ?_)
  refine AOps.nil ?_
  refine go_code ?_
  refine c_block ?_
  apply c_loopkm [1, 3, 4, 5, 6, 7, 8, 9, 10, 11] (σ := Nat) (fun zz => match zz with | k => [(3, .val (.int .i64 (k + 2))), (4, .val (.int .i64 (8 * (k : Int))))]) (fun zz => match zz with | k => (8 * (k : Int)) ≤ max n 0 + 7) (fun zz => match zz with | k => (n + 8 - 8 * k).toNat) (0)
  · repeat' (first | exact Drops.nil | apply Drops.keep rfl | apply Drops.skip rfl)
  · omega
  · exact (by repeat' (first | exact SLe.nil _ | refine SLe.cons rfl ?_ ?_ | exact Le.refl _ | exact Le.own _ _ _ | exact Le.nil _))
  rintro k hI
  try dsimp only [List.cons_append, List.nil_append] at hI ⊢
  refine c_seq ?_
  refine c_seq ?_
  refine c_region ?_
  refine AOps.st 5 rfl rfl rfl (op_move rfl rfl ?_)
  refine AOps.st 6 rfl rfl rfl (op_move rfl rfl ?_)
  refine AOps.st 7 rfl rfl rfl (op_lss rfl rfl rfl ?_); intro c7 h7
  refine AOps.nil ?_
  refine go_code ?_
  rcases bool_split h7 with ⟨rfl, g7⟩ | ⟨rfl, g7⟩
  · refine c_cond_f rfl ?_
    refine c_exit ?_
    refine x_code ?_
    refine x_lp ?_
    refine x_here ?_
    refine go_code ?_
    refine c_seq ?_
    refine c_region ?_
    refine AOps.st 12 rfl rfl rfl (op_move rfl rfl ?_)
    refine AOps.st 2 rfl rfl rfl (op_assign rfl rfl ?_)
    refine AOps.nil ?_
    refine go_code ?_
    refine c_ret ?_
    exact out_tmp rfl rfl (Le.ieq (by unfold need; omega)) (by first | exact MLe.none _ | exact MLe.refl _ | (repeat' (first | exact MLe.nil | exact MLe.refl _ | refine MLe.cons _ ?_ | refine MLe.drop _ ?_))) ⟨rfl, rfl⟩
  · refine c_cond_t rfl ?_
    refine c_skip ?_
    refine go_code ?_
    refine c_seq ?_
    refine c_block ?_
    refine c_region ?_
    refine AOps.st 10 rfl rfl rfl (op_move rfl rfl ?_)
    first | (refine AOps.st 11 rfl rfl rfl (op_add rfl rfl rfl (IntWalk.i64_in _ (by omega)) ?_)) | (refine AOps.st 11 rfl rfl rfl (op_add rfl rfl rfl rfl ?_))
    refine AOps.st 3 rfl rfl rfl (op_assign rfl rfl ?_)
    refine AOps.nil ?_
    refine go_blk ?_
    refine go_code ?_
    refine c_region ?_
    refine AOps.st 8 rfl rfl rfl (op_move rfl rfl ?_)
    first | (refine AOps.st 9 rfl rfl rfl (op_add rfl rfl rfl (IntWalk.i64_in _ (by omega)) ?_)) | (refine AOps.st 9 rfl rfl rfl (op_add rfl rfl rfl rfl ?_))
    refine AOps.st 4 rfl rfl rfl (op_assign rfl rfl ?_)
    refine AOps.nil ?_
    refine go_lp ?_
    exact ⟨k + 1, by omega, by show (n + 8 - 8 * ((k + 1 : Nat) : Int)).toNat < (n + 8 - 8 * (k : Int)).toNat; omega, SLe.cons rfl (Le.ieq (by omega)) (SLe.cons rfl (Le.ieq (by omega)) (by repeat' (first | exact SLe.nil _ | refine SLe.cons rfl ?_ ?_ | exact Le.refl _ | exact Le.own _ _ _ | exact Le.nil _))), (by first | exact MLe.none _ | exact MLe.refl _ | (repeat' (first | exact MLe.nil | exact MLe.refl _ | refine MLe.cons _ ?_ | refine MLe.drop _ ?_)))⟩
/-- what a new object comes to -/
def AllocR (sz : Int) (H : List HO) (o : HO) (ok : Bool) (w : Int) (H' : List HO) : Prop :=
  (Fits31 sz H o.kind o.tag o.parts ∧ ok = true ∧ w = 2 * (used H + 1 : Int) ∧ H' = H ++ [o]) ∨ (¬ Fits31 sz H o.kind o.tag o.parts ∧ ok = false ∧ w = 0 ∧ H' = H)
theorem AllocR.same {sz : Int} {H : List HO} {o : HO} {ok ok2 : Bool} {w w2 : Int} {H1 H2 : List HO} (h : AllocR sz H o ok w H1) (k : AllocR sz H o ok2 w2 H2) : ok2 = ok ∧ w2 = w ∧ H2 = H1 := by
  rcases h with ⟨h, rfl, rfl, rfl⟩ | ⟨h, rfl, rfl, rfl⟩ <;> rcases k with ⟨k, rfl, rfl, rfl⟩ | ⟨k, rfl, rfl, rfl⟩
  · exact ⟨rfl, rfl, rfl⟩
  · exact absurd h k
  · exact absurd k h
  · exact ⟨rfl, rfl, rfl⟩
theorem Alloc_u (b : Nat) (sz : Int) (H : List HO) (M : Mem) (hM : HeapAt b sz H M) (h : 0 < sz) (hs : sz ≤ 16777216) (hu : used H ≤ 16777216) (o : HO) (hk1 : -9223372036854775808 ≤ o.kind) (hk2 : o.kind ≤ 9223372036854775807) (ht1 : -9223372036854775808 ≤ o.tag) (ht2 : o.tag ≤ 9223372036854775807) (hl : o.parts.length ≤ 100000000) :
    ACall Try.prog 22 [.ptr b 0, .val (.int .i64 o.kind), .val (.int .i64 o.tag), .seq 1 (o.parts.map iv)] M (fun v M' => ∃ ok w H', AllocR sz H o ok w H' ∧ v = .tup [.val (.int .u64 w), .val (.bool ok)] ∧ HeapAt b sz H' M') :=
  (Alloc_c b sz H M hM h hs hu o.kind o.tag o.parts hk1 hk2 ht1 ht2 hl).mono (by
    rintro v M' (⟨h1, rfl, h2⟩ | ⟨h1, rfl, rfl⟩)
    · exact ⟨true, _, _, .inl ⟨h1, rfl, rfl, rfl⟩, rfl, h2⟩
    · exact ⟨false, _, _, .inr ⟨h1, rfl, rfl, rfl⟩, rfl, hM⟩)
theorem rAlloc_u (br : Nat) (sz : Int) (H : List HO) (M : Mem) (hM : RefAt br sz H M) (hs : sz ≤ 16777216) (hu : used H ≤ 16777216) (hH : H.length ≤ 16777216) (o : HO) (hl : o.parts.length ≤ 100000000) :
    ACall Try.prog 40 [.ptr br 0, .val (.int .i64 o.kind), .val (.int .i64 o.tag), .seq 1 (o.parts.map iv)] M (fun v M' => ∃ ok w H', AllocR sz H o ok w H' ∧ v = .val (.int .u64 w) ∧ RefAt br sz H' M') :=
  (rAlloc_c br sz H M hM hs hu hH o.kind o.tag o.parts hl).mono (by
    rintro v M' (⟨h1, rfl, h2⟩ | ⟨h1, rfl, rfl⟩)
    · exact ⟨true, _, _, .inl ⟨h1, rfl, rfl, rfl⟩, rfl, h2⟩
    · exact ⟨false, _, _, .inr ⟨h1, rfl, rfl, rfl⟩, rfl, hM⟩)
set_option maxHeartbeats 4000000 in
set_option maxRecDepth 100000 in
theorem Put_c (b : Nat) (sz : Int) (H : List HO) (M : Mem) (hM : HeapAt b sz H M) (h : 0 < sz) (hs : sz ≤ 16777216) (hu : used H ≤ 16777216) (s : ByteArray) (hss : s.size ≤ 100000000) :
    ACall Try.prog 37 [.ptr b 0, .val (.string s)] M (fun v M' => ∃ ok w H', AllocR sz H (textO s) ok w H' ∧ v = .tup [.val (.int .u64 w), .val (.bool ok)] ∧ HeapAt b sz H' M') := by
  have hA := Alloc_u b sz H M hM h hs hu (textO s) (by simp [textO]) (by simp [textO]) (by simp [textO]) (by simp [textO]) (by show (txt s).length ≤ _; rw [txt_len]; omega)
  have hP := Pack_o s (by omega)
  have hI := Int_p s.size
  have hti := txt_iv s
  rw [show (textO s).parts.map iv = (txt s).map iv from rfl, hti] at hA
  have hpl : ((packL (bytesN s)).map ivN).length ≤ 100000000 := by rw [List.length_map, packL_len, bytesN_len]; omega
  obtain ⟨r0, r1, r2, rfl⟩ := hM.three
  generalize (packL (bytesN s)).map ivN = EP at *
  refine ACall.enter Try.func37 rfl (by kernel_rfl) rfl (Nat.le_of_ble_eq_true rfl) ?_
  refine c_start ?_
  refine c_seq ?_
  refine c_region ?_
  refine AOps.st 4 rfl rfl rfl (op_assign rfl rfl ?_)
  refine AOps.st 5 rfl rfl rfl (op_assign rfl rfl ?_)
  refine AOps.nil ?_
  refine go_code ?_
  refine c_seq ?_
  refine c_region ?_
  refine AOps.st 6 rfl rfl rfl (op_move rfl rfl ?_)
  refine AOps.st 7 rfl rfl rfl (op_move rfl rfl ?_)
  refine AOps.st 8 rfl rfl rfl (op_len_str rfl tu_9 rfl ?_)
  refine AOps.st 9 rfl rfl rfl (op_callp (xs := [.tmp 8]) rfl rfl (hI) (by first | exact Les.refl _ | (repeat' (first | exact Les.refl _ | refine Les.cons ?_ ?_ | exact Le.refl _ | exact Le.own _ _ _ | exact Le.nil _ | refine Le.agg ?_))) ?_)
  refine AOps.st 10 rfl rfl rfl (op_buildSlice_own (xs := [.tmp 9]) el_34 rfl rfl rfl rfl rfl rfl (Nat.le_of_ble_eq_true rfl) ?_); intro u10
  refine AOps.st 11 rfl rfl rfl (op_move rfl rfl ?_)
  refine AOps.st 12 rfl rfl rfl (op_callo (xs := [.tmp 11]) rfl rfl (hP) (by first | exact Les.refl _ | (repeat' (first | exact Les.refl _ | refine Les.cons ?_ ?_ | exact Le.refl _ | exact Le.own _ _ _ | exact Le.nil _ | refine Le.agg ?_))) ?_); intro u12
  first | (refine AOps.st 13 rfl rfl rfl (op_append (i := 0) el_34 rfl rfl rfl rfl (.seq _ _) (by first | (simp; done) | (simp; omega) | omega) ?_)) | (refine AOps.st 13 rfl rfl rfl (op_append (i := 1) el_34 rfl rfl rfl rfl (.seq _ _) (by first | (simp; done) | (simp; omega) | omega) ?_)) | (refine AOps.st 13 rfl rfl rfl (op_append (i := 2) el_34 rfl rfl rfl rfl (.seq _ _) (by first | (simp; done) | (simp; omega) | omega) ?_)) | (refine AOps.st 13 rfl rfl rfl (op_append (i := 3) el_34 rfl rfl rfl rfl (.seq _ _) (by first | (simp; done) | (simp; omega) | omega) ?_)) | (refine AOps.st 13 rfl rfl rfl (op_append (i := 4) el_34 rfl rfl rfl rfl (.seq _ _) (by first | (simp; done) | (simp; omega) | omega) ?_)) | (refine AOps.st 13 rfl rfl rfl (op_append (i := 5) el_34 rfl rfl rfl rfl (.seq _ _) (by first | (simp; done) | (simp; omega) | omega) ?_)) | (refine AOps.st 13 rfl rfl rfl (op_append (i := 0) el_34 rfl rfl rfl rfl (.own _ _ _) (by first | (simp; done) | (simp; omega) | omega) ?_)) | (refine AOps.st 13 rfl rfl rfl (op_append (i := 1) el_34 rfl rfl rfl rfl (.own _ _ _) (by first | (simp; done) | (simp; omega) | omega) ?_)) | (refine AOps.st 13 rfl rfl rfl (op_append (i := 2) el_34 rfl rfl rfl rfl (.own _ _ _) (by first | (simp; done) | (simp; omega) | omega) ?_)) | (refine AOps.st 13 rfl rfl rfl (op_append (i := 3) el_34 rfl rfl rfl rfl (.own _ _ _) (by first | (simp; done) | (simp; omega) | omega) ?_)) | (refine AOps.st 13 rfl rfl rfl (op_append (i := 4) el_34 rfl rfl rfl rfl (.own _ _ _) (by first | (simp; done) | (simp; omega) | omega) ?_)) | (refine AOps.st 13 rfl rfl rfl (op_append (i := 5) el_34 rfl rfl rfl rfl (.own _ _ _) (by first | (simp; done) | (simp; omega) | omega) ?_)) | (refine AOps.st 13 rfl rfl rfl (op_append (i := 0) el_34 rfl rfl rfl rfl (.nil _) (by first | (simp; done) | (simp; omega) | omega) ?_)) | (refine AOps.st 13 rfl rfl rfl (op_append (i := 1) el_34 rfl rfl rfl rfl (.nil _) (by first | (simp; done) | (simp; omega) | omega) ?_)) | (refine AOps.st 13 rfl rfl rfl (op_append (i := 2) el_34 rfl rfl rfl rfl (.nil _) (by first | (simp; done) | (simp; omega) | omega) ?_)) | (refine AOps.st 13 rfl rfl rfl (op_append (i := 3) el_34 rfl rfl rfl rfl (.nil _) (by first | (simp; done) | (simp; omega) | omega) ?_)) | (refine AOps.st 13 rfl rfl rfl (op_append (i := 4) el_34 rfl rfl rfl rfl (.nil _) (by first | (simp; done) | (simp; omega) | omega) ?_)) | (refine AOps.st 13 rfl rfl rfl (op_append (i := 5) el_34 rfl rfl rfl rfl (.nil _) (by first | (simp; done) | (simp; omega) | omega) ?_)) | (refine AOps.st 13 rfl rfl rfl (op_append_nil el_34 rfl rfl rfl (.seq _ _) (by first | (simp; done) | (simp; omega) | omega) ?_)) | (refine AOps.st 13 rfl rfl rfl (op_append_nil el_34 rfl rfl rfl (.own _ _ _) (by first | (simp; done) | (simp; omega) | omega) ?_)) | (refine AOps.st 13 rfl rfl rfl (op_append_nil el_34 rfl rfl rfl (.nil _) (by first | (simp; done) | (simp; omega) | omega) ?_))
  intro u13
  refine AOps.st 14 rfl rfl rfl (op_callat [2,2,2] (xs := [.tmp 6, .const (.int .i64 3), .const (.int .i64 0), .tmp 13])  rfl rfl rfl hA (Les.cons (Le.refl _) (Les.cons (Le.refl _) (Les.cons (Le.refl _) (Les.cons (Le.own_seq (by simp [iv, AV.cells])) (Les.refl _))))) ?_)
  rintro v14 M14 ⟨ok, w, H', hr, rfl, hM'⟩
  refine AOps.st 15 rfl rfl rfl (op_extract rfl rfl rfl ?_)
  refine AOps.st 16 rfl rfl rfl (op_extract rfl rfl rfl ?_)
  refine AOps.st 4 rfl rfl rfl (op_assign rfl rfl ?_)
  refine AOps.st 5 rfl rfl rfl (op_assign rfl rfl ?_)
  refine AOps.nil ?_
  refine go_code ?_
  refine c_ret ?_
  exact out_tt (M' := M14) rfl rfl rfl (Le.refl _) (MLe.pre _ _) ⟨ok, w, H', hr, rfl, hM'⟩
set_option maxHeartbeats 4000000 in
set_option maxRecDepth 100000 in
theorem rPut_c (br : Nat) (sz : Int) (H : List HO) (M : Mem) (hM : RefAt br sz H M) (hs : sz ≤ 16777216) (hu : used H ≤ 16777216) (hH : H.length ≤ 16777216) (s : ByteArray) (hss : s.size ≤ 100000000) :
    ACall Try.prog 36 [.ptr br 0, .val (.string s)] M (fun v M' => ∃ ok w H', AllocR sz H (textO s) ok w H' ∧ v = .val (.int .u64 w) ∧ RefAt br sz H' M') := by
  have hA := rAlloc_u br sz H M hM hs hu hH (textO s) (by show (txt s).length ≤ _; rw [txt_len]; omega)
  have hP := rPack_o s (by omega)
  have hI := rInt_p s.size
  have hti := txt_iv s
  rw [show (textO s).parts.map iv = (txt s).map iv from rfl, hti] at hA
  have hpl : ((packL (bytesN s)).map ivN).length ≤ 100000000 := by rw [List.length_map, packL_len, bytesN_len]; omega
  obtain ⟨r0, r1, rfl⟩ := hM.two
  generalize (packL (bytesN s)).map ivN = EP at *
  refine ACall.enter Try.func36 rfl (by kernel_rfl) rfl (Nat.le_of_ble_eq_true rfl) ?_
  refine c_start ?_
  refine c_seq ?_
  refine c_region ?_
  refine AOps.st 4 rfl rfl rfl (op_assign rfl rfl ?_)
  refine AOps.nil ?_
  refine go_code ?_
  refine c_seq ?_
  refine c_region ?_
  refine AOps.st 6 rfl rfl rfl (op_move rfl rfl ?_)
  refine AOps.st 7 rfl rfl rfl (op_len_str rfl tu_9 rfl ?_)
  refine AOps.st 8 rfl rfl rfl (op_callp (xs := [.tmp 7]) rfl rfl (hI) (by first | exact Les.refl _ | (repeat' (first | exact Les.refl _ | refine Les.cons ?_ ?_ | exact Le.refl _ | exact Le.own _ _ _ | exact Le.nil _ | refine Le.agg ?_))) ?_)
  refine AOps.st 9 rfl rfl rfl (op_buildSlice_own (xs := [.tmp 8]) el_34 rfl rfl rfl rfl rfl rfl (Nat.le_of_ble_eq_true rfl) ?_); intro u9
  refine AOps.st 5 rfl rfl rfl (op_assign rfl rfl ?_)
  refine AOps.nil ?_
  refine go_code ?_
  refine c_seq ?_
  refine c_region ?_
  refine AOps.st 10 rfl rfl rfl (op_move rfl rfl ?_)
  refine AOps.st 11 rfl rfl rfl (op_move rfl rfl ?_)
  refine AOps.st 12 rfl rfl rfl (op_move rfl rfl ?_)
  refine AOps.st 13 rfl rfl rfl (op_callo (xs := [.tmp 12]) rfl rfl (hP) (by first | exact Les.refl _ | (repeat' (first | exact Les.refl _ | refine Les.cons ?_ ?_ | exact Le.refl _ | exact Le.own _ _ _ | exact Le.nil _ | refine Le.agg ?_))) ?_); intro u13
  first | (refine AOps.st 14 rfl rfl rfl (op_append (i := 0) el_34 rfl rfl rfl rfl (.seq _ _) (by first | (simp; done) | (simp; omega) | omega) ?_)) | (refine AOps.st 14 rfl rfl rfl (op_append (i := 1) el_34 rfl rfl rfl rfl (.seq _ _) (by first | (simp; done) | (simp; omega) | omega) ?_)) | (refine AOps.st 14 rfl rfl rfl (op_append (i := 2) el_34 rfl rfl rfl rfl (.seq _ _) (by first | (simp; done) | (simp; omega) | omega) ?_)) | (refine AOps.st 14 rfl rfl rfl (op_append (i := 3) el_34 rfl rfl rfl rfl (.seq _ _) (by first | (simp; done) | (simp; omega) | omega) ?_)) | (refine AOps.st 14 rfl rfl rfl (op_append (i := 4) el_34 rfl rfl rfl rfl (.seq _ _) (by first | (simp; done) | (simp; omega) | omega) ?_)) | (refine AOps.st 14 rfl rfl rfl (op_append (i := 5) el_34 rfl rfl rfl rfl (.seq _ _) (by first | (simp; done) | (simp; omega) | omega) ?_)) | (refine AOps.st 14 rfl rfl rfl (op_append (i := 0) el_34 rfl rfl rfl rfl (.own _ _ _) (by first | (simp; done) | (simp; omega) | omega) ?_)) | (refine AOps.st 14 rfl rfl rfl (op_append (i := 1) el_34 rfl rfl rfl rfl (.own _ _ _) (by first | (simp; done) | (simp; omega) | omega) ?_)) | (refine AOps.st 14 rfl rfl rfl (op_append (i := 2) el_34 rfl rfl rfl rfl (.own _ _ _) (by first | (simp; done) | (simp; omega) | omega) ?_)) | (refine AOps.st 14 rfl rfl rfl (op_append (i := 3) el_34 rfl rfl rfl rfl (.own _ _ _) (by first | (simp; done) | (simp; omega) | omega) ?_)) | (refine AOps.st 14 rfl rfl rfl (op_append (i := 4) el_34 rfl rfl rfl rfl (.own _ _ _) (by first | (simp; done) | (simp; omega) | omega) ?_)) | (refine AOps.st 14 rfl rfl rfl (op_append (i := 5) el_34 rfl rfl rfl rfl (.own _ _ _) (by first | (simp; done) | (simp; omega) | omega) ?_)) | (refine AOps.st 14 rfl rfl rfl (op_append (i := 0) el_34 rfl rfl rfl rfl (.nil _) (by first | (simp; done) | (simp; omega) | omega) ?_)) | (refine AOps.st 14 rfl rfl rfl (op_append (i := 1) el_34 rfl rfl rfl rfl (.nil _) (by first | (simp; done) | (simp; omega) | omega) ?_)) | (refine AOps.st 14 rfl rfl rfl (op_append (i := 2) el_34 rfl rfl rfl rfl (.nil _) (by first | (simp; done) | (simp; omega) | omega) ?_)) | (refine AOps.st 14 rfl rfl rfl (op_append (i := 3) el_34 rfl rfl rfl rfl (.nil _) (by first | (simp; done) | (simp; omega) | omega) ?_)) | (refine AOps.st 14 rfl rfl rfl (op_append (i := 4) el_34 rfl rfl rfl rfl (.nil _) (by first | (simp; done) | (simp; omega) | omega) ?_)) | (refine AOps.st 14 rfl rfl rfl (op_append (i := 5) el_34 rfl rfl rfl rfl (.nil _) (by first | (simp; done) | (simp; omega) | omega) ?_)) | (refine AOps.st 14 rfl rfl rfl (op_append_nil el_34 rfl rfl rfl (.seq _ _) (by first | (simp; done) | (simp; omega) | omega) ?_)) | (refine AOps.st 14 rfl rfl rfl (op_append_nil el_34 rfl rfl rfl (.own _ _ _) (by first | (simp; done) | (simp; omega) | omega) ?_)) | (refine AOps.st 14 rfl rfl rfl (op_append_nil el_34 rfl rfl rfl (.nil _) (by first | (simp; done) | (simp; omega) | omega) ?_))
  intro u14
  refine AOps.st 15 rfl rfl rfl (op_callat [2,2] (xs := [.tmp 10, .const (.int .i64 3), .const (.int .i64 0), .tmp 14])  rfl rfl rfl hA (Les.cons (Le.refl _) (Les.cons (Le.refl _) (Les.cons (Le.refl _) (Les.cons (Le.own_seq (by simp [iv, AV.cells])) (Les.refl _))))) ?_)
  rintro v14 M14 ⟨ok, w, H', hr, rfl, hM'⟩
  refine AOps.st 4 rfl rfl rfl (op_assign rfl rfl ?_)
  refine AOps.nil ?_
  refine go_code ?_
  refine c_ret ?_
  exact out_tmp (M' := M14) rfl rfl (Le.refl _) (MLe.pre _ _) ⟨ok, w, H', hr, rfl, hM'⟩
end Go.Proofs.Ytecpnlhjjmcllaa
