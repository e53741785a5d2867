/- strs: words, Get, Len, two, Cat. -/
import Derived.Test.YtecpnlhjjmcllaaB32t
namespace Go.Proofs.Ytecpnlhjjmcllaa
open Go.RowKit
set_option maxHeartbeats 4000000 in
set_option maxRecDepth 100000 in
theorem words_some (b : Nat) (sz : Int) (H : List HO) (M : Mem) (hM : HeapAt b sz H M) (h : 0 < sz) (hH : ∀ o ∈ H, o.ok) (hu : used H ≤ 16777216) (w : Int) (h0 : 0 ≤ w) (h1 : w ≤ 18446744073709551615) (o : HO) (ho : objOf H w = some o) (hw : wordsOk o) :
    KCall Try.prog 51 [.ptr b 0, .val (.int .u64 w)] M (.tup [.seq 1 (o.parts.tail.map iv), .val (.int .i64 (toI (o.parts.headD 0))), .val (.bool true)]) := by
  have hL := Look_c b sz H M hM h hH hu w h0 h1
  have hP := fun i => Part_c b sz H M hM h hH hu w h0 h1 i
  have hmem : o ∈ H := (obj_at ho).choose_spec.2.2.2.2.2.2
  obtain ⟨k1, k2, k3⟩ := hH o hmem
  have hpl : o.parts.length ≤ 16777216 := by unfold headOk at k1; simp only [Bool.and_eq_true, decide_eq_true_eq] at k1; omega
  have hPk : ∀ (i : Nat) (x : Int), o.parts[i]? = some x → KCall Try.prog 23 [.ptr b 0, .val (.int .u64 w), .val (.int .i64 i)] M (.tup [.val (.int .u64 x), .val (.bool true)]) := fun i x hx => by
    have := hP i
    unfold partR partV at this
    rw [ho] at this
    simp only [Int.toNat_natCast, hx] at this
    rw [if_pos (by omega)] at this
    exact this
  unfold lookV at hL
  rw [ho] at hL
  simp only at hL
  clear hP
  obtain ⟨kd, tg, ps⟩ := o
  obtain ⟨w1, w2, w3, w4, w5, w6⟩ := hw
  simp only at *
  subst w1 w2
  cases ps with
  | nil => simp at k2
  | cons p l =>
    simp only [List.headD_cons, List.tail_cons, List.length_cons] at *
    have hp := k3 p (by simp)
    have hT := ToInt_p p hp.1 hp.2
    rw [w3] at hT
    obtain ⟨n, hn⟩ : ∃ n : Nat, toI p = n := ⟨(toI p).toNat, by omega⟩
    rw [hn] at hT w5 w6 ⊢
    have hN := Need_c n (by omega) (by omega)
    rw [w6] at hN
    have hP0 := hPk 0 p (by simp)
    have hPj : ∀ (j : Nat) (x : Int), l[j]? = some x → KCall Try.prog 23 [.ptr b 0, .val (.int .u64 w), .val (.int .i64 ((j : Int) + 1))] M (.tup [.val (.int .u64 x), .val (.bool true)]) := fun j x hx => by
      have := hPk (j + 1) x (by simpa using hx)
      rwa [Int.natCast_add] at this
    obtain ⟨r0, r1, r2, rfl⟩ := hM.three
    have hll : (l.map iv).length = l.length := by simp
    refine ACall.enter Try.func51 rfl (by kernel_rfl) rfl (Nat.le_of_ble_eq_true rfl) ?_
    refine c_start ?_
    refine c_seq ?_
    refine c_region ?_
    refine AOps.st 4 rfl rfl rfl (op_assign rfl rfl ?_)
    refine AOps.st 5 rfl rfl rfl (op_assign rfl rfl ?_)
    refine AOps.st 6 rfl rfl rfl (op_assign rfl rfl ?_)
    refine AOps.nil ?_
    refine go_code ?_
    refine c_seq ?_
    refine c_region ?_
    refine AOps.st 17 rfl rfl rfl (op_move rfl rfl ?_)
    refine AOps.st 18 rfl rfl rfl (op_move rfl rfl ?_)
    refine AOps.st 19 rfl rfl rfl (op_callk (xs := [.tmp 17, .tmp 18]) [0,0,0] rfl rfl rfl (hL) (by first | exact Les.refl _ | (repeat' (first | exact Les.refl _ | refine Les.cons ?_ ?_ | exact Le.refl _ | exact Le.own _ _ _ | exact Le.nil _ | refine Le.agg ?_))) ?_)
    refine AOps.st 16 rfl rfl rfl (op_move rfl rfl ?_)
    refine AOps.st 20 rfl rfl rfl (op_extract rfl rfl rfl ?_)
    refine AOps.st 21 rfl rfl rfl (op_extract rfl rfl rfl ?_)
    refine AOps.st 22 rfl rfl rfl (op_extract rfl rfl rfl ?_)
    refine AOps.st 23 rfl rfl rfl (op_extract rfl rfl rfl ?_)
    refine AOps.st 7 rfl rfl rfl (op_assign rfl rfl ?_)
    refine AOps.st 8 rfl rfl rfl (op_assign rfl rfl ?_)
    refine AOps.st 9 rfl rfl rfl (op_assign rfl rfl ?_)
    refine AOps.st 10 rfl rfl rfl (op_assign rfl rfl ?_)
    refine AOps.nil ?_
    refine go_code ?_
    refine c_seq ?_
    refine c_seq ?_
    refine c_bool 33 (False) ?_ _ _ rfl ?_
    · skip
      refine AOps.st 24 rfl rfl rfl (op_move rfl rfl ?_)
      refine AOps.st 25 rfl rfl rfl (op_notc rfl rfl ?_); intro c25 h25
      try replace h25 := nott h25 h23
      refine AOps.st 26 rfl rfl rfl (op_move rfl rfl ?_)
      rcases bool_split h25 with ⟨rfl, g25⟩ | ⟨rfl, g25⟩
      · skip
        refine AOps.gt 27 rfl rfl rfl rfl rfl (op_move rfl rfl ?_)
        refine AOps.gt 28 rfl rfl rfl rfl rfl (op_neq rfl rfl rfl ?_); intro c28 h28
        refine AOps.st 29 rfl rfl rfl (op_pick rfl rfl rfl ?_)
        refine AOps.st 30 rfl rfl rfl (op_move rfl rfl ?_)
        rcases bool_split h28 with ⟨rfl, g28⟩ | ⟨rfl, g28⟩
        · skip
          refine AOps.gt 31 rfl rfl rfl rfl rfl (op_move rfl rfl ?_)
          refine AOps.gt 32 rfl rfl rfl rfl rfl (op_neq rfl rfl rfl ?_); intro c32 h32
          refine AOps.st 33 rfl rfl rfl (op_pick rfl rfl rfl ?_)
          refine AOps.nil ?_
          refine BoolQ.mk rfl ?_ (by repeat' (first | exact SLe.wo _ _ | exact SLe.refl _ | refine SLe.fresh rfl ?_)) (by first | exact MLe.none _ | exact MLe.refl _ | (repeat' (first | exact MLe.nil | exact MLe.refl _ | refine MLe.cons _ ?_ | refine MLe.drop _ ?_)))
          first | (simp_all; done) | (simp_all; omega)
        · skip
          refine AOps.gf 31 rfl rfl rfl rfl rfl ?_
          refine AOps.gf 32 rfl rfl rfl rfl rfl ?_
          refine AOps.st 33 rfl rfl rfl (op_pick rfl rfl rfl ?_)
          refine AOps.nil ?_
          refine BoolQ.mk rfl ?_ (by repeat' (first | exact SLe.wo _ _ | exact SLe.refl _ | refine SLe.fresh rfl ?_)) (by first | exact MLe.none _ | exact MLe.refl _ | (repeat' (first | exact MLe.nil | exact MLe.refl _ | refine MLe.cons _ ?_ | refine MLe.drop _ ?_)))
          first | (simp_all; done) | (simp_all; omega)
      · skip
        refine AOps.gf 27 rfl rfl rfl rfl rfl ?_
        refine AOps.gf 28 rfl rfl rfl rfl rfl ?_
        refine AOps.st 29 rfl rfl rfl (op_pick rfl rfl rfl ?_)
        refine AOps.st 30 rfl rfl rfl (op_move rfl rfl ?_)
        refine AOps.gf 31 rfl rfl rfl rfl rfl ?_
        refine AOps.gf 32 rfl rfl rfl rfl rfl ?_
        refine AOps.st 33 rfl rfl rfl (op_pick rfl rfl rfl ?_)
        refine AOps.nil ?_
        refine BoolQ.mk rfl ?_ (by repeat' (first | exact SLe.wo _ _ | exact SLe.refl _ | refine SLe.fresh rfl ?_)) (by first | exact MLe.none _ | exact MLe.refl _ | (repeat' (first | exact MLe.nil | exact MLe.refl _ | refine MLe.cons _ ?_ | refine MLe.drop _ ?_)))
        first | (simp_all; done) | (simp_all; omega)
    intro c33 h33
    refine go_code ?_
    rcases bool_split h33 with ⟨rfl, g33⟩ | ⟨rfl, g33⟩
    · refine c_cond_f rfl ?_
      refine c_skip ?_
      refine go_code ?_
      refine c_seq ?_
      refine c_region ?_
      refine AOps.st 35 rfl rfl rfl (op_move rfl rfl ?_)
      refine AOps.st 36 rfl rfl rfl (op_move rfl rfl ?_)
      refine AOps.st 37 rfl rfl rfl (op_callk (xs := [.tmp 35, .tmp 36, .const (.int .i64 0)]) [0,0,0] rfl rfl rfl (hP0) (by first | exact Les.refl _ | (repeat' (first | exact Les.refl _ | refine Les.cons ?_ ?_ | exact Le.refl _ | exact Le.own _ _ _ | exact Le.nil _ | refine Le.agg ?_))) ?_)
      refine AOps.st 34 rfl rfl rfl (op_move rfl rfl ?_)
      refine AOps.st 38 rfl rfl rfl (op_extract rfl rfl rfl ?_)
      refine AOps.st 39 rfl rfl rfl (op_extract rfl rfl rfl ?_)
      refine AOps.st 11 rfl rfl rfl (op_assign rfl rfl ?_)
      refine AOps.st 12 rfl rfl rfl (op_assign rfl rfl ?_)
      refine AOps.nil ?_
      refine go_code ?_
      refine c_seq ?_
      refine c_region ?_
      refine AOps.st 41 rfl rfl rfl (op_move rfl rfl ?_)
      refine AOps.st 42 rfl rfl rfl (op_callp (xs := [.tmp 41]) rfl rfl (hT) (by first | exact Les.refl _ | (repeat' (first | exact Les.refl _ | refine Les.cons ?_ ?_ | exact Le.refl _ | exact Le.own _ _ _ | exact Le.nil _ | refine Le.agg ?_))) ?_)
      refine AOps.st 40 rfl rfl rfl (op_move rfl rfl ?_)
      refine AOps.st 43 rfl rfl rfl (op_extract rfl rfl rfl ?_)
      refine AOps.st 44 rfl rfl rfl (op_extract rfl rfl rfl ?_)
      refine AOps.st 13 rfl rfl rfl (op_assign rfl rfl ?_)
      refine AOps.st 10 rfl rfl rfl (op_assign rfl rfl ?_)
      refine AOps.nil ?_
      refine go_code ?_
      refine c_seq ?_
      refine c_seq ?_
      refine c_bool 64 (False) ?_ _ _ rfl ?_
      · skip
        refine AOps.st 45 rfl rfl rfl (op_move rfl rfl ?_)
        refine AOps.st 46 rfl rfl rfl (op_notc rfl rfl ?_); intro c46 h46
        try replace h46 := nott h46 h44
        refine AOps.st 47 rfl rfl rfl (op_move rfl rfl ?_)
        rcases bool_split h46 with ⟨rfl, g46⟩ | ⟨rfl, g46⟩
        · skip
          refine AOps.gt 48 rfl rfl rfl rfl rfl (op_move rfl rfl ?_)
          refine AOps.gt 49 rfl rfl rfl rfl rfl (op_lss rfl rfl rfl ?_); intro c49 h49
          refine AOps.st 50 rfl rfl rfl (op_pick rfl rfl rfl ?_)
          refine AOps.st 51 rfl rfl rfl (op_move rfl rfl ?_)
          rcases bool_split h49 with ⟨rfl, g49⟩ | ⟨rfl, g49⟩
          · skip
            refine AOps.gt 52 rfl rfl rfl rfl rfl (op_move rfl rfl ?_)
            refine AOps.gt 53 rfl rfl rfl rfl rfl (op_move rfl rfl ?_)
            first | (refine AOps.gt 54 rfl rfl rfl rfl rfl (op_sub rfl rfl rfl (IntWalk.i64_in _ (by omega)) ?_)) | (refine AOps.gt 54 rfl rfl rfl rfl rfl (op_sub rfl rfl rfl rfl ?_))
            first | (refine AOps.gt 55 rfl rfl rfl rfl rfl (op_mul rfl rfl rfl (IntWalk.i64_in _ (by omega)) ?_)) | (refine AOps.gt 55 rfl rfl rfl rfl rfl (op_mul rfl rfl rfl rfl ?_))
            refine AOps.gt 56 rfl rfl rfl rfl rfl (op_gtr rfl rfl rfl ?_); intro c56 h56
            refine AOps.st 57 rfl rfl rfl (op_pick rfl rfl rfl ?_)
            refine AOps.st 58 rfl rfl rfl (op_move rfl rfl ?_)
            rcases bool_split h56 with ⟨rfl, g56⟩ | ⟨rfl, g56⟩
            · skip
              refine AOps.gt 59 rfl rfl rfl rfl rfl (op_move rfl rfl ?_)
              refine AOps.gt 60 rfl rfl rfl rfl rfl (op_callp (xs := [.tmp 59]) rfl rfl (hN) (by first | exact Les.refl _ | (repeat' (first | exact Les.refl _ | refine Les.cons ?_ ?_ | exact Le.refl _ | exact Le.own _ _ _ | exact Le.nil _ | refine Le.agg ?_))) ?_)
              refine AOps.gt 61 rfl rfl rfl rfl rfl (op_move rfl rfl ?_)
              first | (refine AOps.gt 62 rfl rfl rfl rfl rfl (op_add rfl rfl rfl (IntWalk.i64_in _ (by omega)) ?_)) | (refine AOps.gt 62 rfl rfl rfl rfl rfl (op_add rfl rfl rfl rfl ?_))
              refine AOps.gt 63 rfl rfl rfl rfl rfl (op_neq rfl rfl rfl ?_); intro c63 h63
              refine AOps.st 64 rfl rfl rfl (op_pick rfl rfl rfl ?_)
              refine AOps.nil ?_
              refine BoolQ.mk rfl ?_ (by repeat' (first | exact SLe.wo _ _ | exact SLe.refl _ | refine SLe.fresh rfl ?_)) (by first | exact MLe.none _ | exact MLe.refl _ | (repeat' (first | exact MLe.nil | exact MLe.refl _ | refine MLe.cons _ ?_ | refine MLe.drop _ ?_)))
              first | (simp_all; done) | (simp_all; omega) | grind
            · skip
              refine AOps.gf 59 rfl rfl rfl rfl rfl ?_
              refine AOps.gf 60 rfl rfl rfl rfl rfl ?_
              refine AOps.gf 61 rfl rfl rfl rfl rfl ?_
              refine AOps.gf 62 rfl rfl rfl rfl rfl ?_
              refine AOps.gf 63 rfl rfl rfl rfl rfl ?_
              refine AOps.st 64 rfl rfl rfl (op_pick rfl rfl rfl ?_)
              refine AOps.nil ?_
              refine BoolQ.mk rfl ?_ (by repeat' (first | exact SLe.wo _ _ | exact SLe.refl _ | refine SLe.fresh rfl ?_)) (by first | exact MLe.none _ | exact MLe.refl _ | (repeat' (first | exact MLe.nil | exact MLe.refl _ | refine MLe.cons _ ?_ | refine MLe.drop _ ?_)))
              first | (simp_all; done) | (simp_all; omega) | grind
          · skip
            refine AOps.gf 52 rfl rfl rfl rfl rfl ?_
            refine AOps.gf 53 rfl rfl rfl rfl rfl ?_
            refine AOps.gf 54 rfl rfl rfl rfl rfl ?_
            refine AOps.gf 55 rfl rfl rfl rfl rfl ?_
            refine AOps.gf 56 rfl rfl rfl rfl rfl ?_
            refine AOps.st 57 rfl rfl rfl (op_pick rfl rfl rfl ?_)
            refine AOps.st 58 rfl rfl rfl (op_move rfl rfl ?_)
            refine AOps.gf 59 rfl rfl rfl rfl rfl ?_
            refine AOps.gf 60 rfl rfl rfl rfl rfl ?_
            refine AOps.gf 61 rfl rfl rfl rfl rfl ?_
            refine AOps.gf 62 rfl rfl rfl rfl rfl ?_
            refine AOps.gf 63 rfl rfl rfl rfl rfl ?_
            refine AOps.st 64 rfl rfl rfl (op_pick rfl rfl rfl ?_)
            refine AOps.nil ?_
            refine BoolQ.mk rfl ?_ (by repeat' (first | exact SLe.wo _ _ | exact SLe.refl _ | refine SLe.fresh rfl ?_)) (by first | exact MLe.none _ | exact MLe.refl _ | (repeat' (first | exact MLe.nil | exact MLe.refl _ | refine MLe.cons _ ?_ | refine MLe.drop _ ?_)))
            first | (simp_all; done) | (simp_all; omega) | grind
        · skip
          refine AOps.gf 48 rfl rfl rfl rfl rfl ?_
          refine AOps.gf 49 rfl rfl rfl rfl rfl ?_
          refine AOps.st 50 rfl rfl rfl (op_pick rfl rfl rfl ?_)
          refine AOps.st 51 rfl rfl rfl (op_move rfl rfl ?_)
          refine AOps.gf 52 rfl rfl rfl rfl rfl ?_
          refine AOps.gf 53 rfl rfl rfl rfl rfl ?_
          refine AOps.gf 54 rfl rfl rfl rfl rfl ?_
          refine AOps.gf 55 rfl rfl rfl rfl rfl ?_
          refine AOps.gf 56 rfl rfl rfl rfl rfl ?_
          refine AOps.st 57 rfl rfl rfl (op_pick rfl rfl rfl ?_)
          refine AOps.st 58 rfl rfl rfl (op_move rfl rfl ?_)
          refine AOps.gf 59 rfl rfl rfl rfl rfl ?_
          refine AOps.gf 60 rfl rfl rfl rfl rfl ?_
          refine AOps.gf 61 rfl rfl rfl rfl rfl ?_
          refine AOps.gf 62 rfl rfl rfl rfl rfl ?_
          refine AOps.gf 63 rfl rfl rfl rfl rfl ?_
          refine AOps.st 64 rfl rfl rfl (op_pick rfl rfl rfl ?_)
          refine AOps.nil ?_
          refine BoolQ.mk rfl ?_ (by repeat' (first | exact SLe.wo _ _ | exact SLe.refl _ | refine SLe.fresh rfl ?_)) (by first | exact MLe.none _ | exact MLe.refl _ | (repeat' (first | exact MLe.nil | exact MLe.refl _ | refine MLe.cons _ ?_ | refine MLe.drop _ ?_)))
          first | (simp_all; done) | (simp_all; omega) | grind
      intro c64 h64
      refine go_code ?_
      rcases bool_split h64 with ⟨rfl, g64⟩ | ⟨rfl, g64⟩
      · refine c_cond_f rfl ?_
        refine c_skip ?_
        refine go_code ?_
        refine c_seq ?_
        refine c_region ?_
        refine AOps.st 65 rfl rfl rfl (op_move rfl rfl ?_)
        first | (refine AOps.st 66 rfl rfl rfl (op_sub rfl rfl rfl (IntWalk.i64_in _ (by omega)) ?_)) | (refine AOps.st 66 rfl rfl rfl (op_sub rfl rfl rfl rfl ?_))
        refine AOps.st 67 rfl rfl rfl (op_makeSlice (n := l.length) el_34 rfl rfl (by omega) (by omega) rfl ?_); intro b67
        refine AOps.st 14 rfl rfl rfl (op_assign rfl rfl ?_)
        refine AOps.nil ?_
        refine go_code ?_
        refine c_seq ?_
        refine c_seq ?_
        refine c_region ?_
        refine AOps.st 68 rfl rfl rfl (op_move rfl rfl ?_)
        first | (refine AOps.st 69 rfl rfl rfl (op_sub rfl rfl rfl (IntWalk.i64_in _ (by omega)) ?_)) | (refine AOps.st 69 rfl rfl rfl (op_sub rfl rfl rfl rfl ?_))
        refine AOps.st 70 rfl rfl rfl (op_move rfl rfl ?_)
        refine AOps.nil ?_
        refine go_code ?_
        refine c_block ?_
        apply c_loopk [2, 3, 7, 8, 9, 10, 11, 12, 15, 16, 17, 18, 19, 20, 21, 22, 23, 24, 25, 26, 27, 28, 29, 30, 31, 32, 33, 34, 35, 36, 37, 38, 39, 40, 41, 42, 43, 44, 45, 46, 47, 48, 49, 50, 51, 52, 53, 54, 55, 56, 57, 58, 59, 60, 61, 62, 63, 64, 65, 66, 67, 68, 70, 71, 72, 73, 74, 75, 76, 77, 78, 79, 80, 81, 82, 83, 84] (σ := Nat) (fun zz => match zz with | j => [(70, .val (.int .i64 j))]) (fun zz => match zz with | j => [.loc b67 ((l.map iv).take j ++ List.replicate (l.length - j) (iv 0)).flatten, r0, r1, r2]) (fun zz => match zz with | j => j ≤ l.length) (fun zz => match zz with | j => l.length - j) (0)
        · repeat' (first | exact Drops.nil | apply Drops.keep rfl | apply Drops.skip rfl)
        · exact Nat.zero_le _
        · exact (by repeat' (first | exact SLe.nil _ | refine SLe.cons rfl ?_ ?_ | exact Le.refl _ | exact Le.own _ _ _ | exact Le.nil _))
        · exact (MLe.of_eq (by simp [iv, AV.cells]))
        rintro j hI
        try dsimp only [List.cons_append, List.nil_append] at hI ⊢
        refine c_seq ?_
        refine c_region ?_
        refine AOps.st 71 rfl rfl rfl (op_lss rfl rfl rfl ?_); intro c71 h71
        refine AOps.nil ?_
        refine go_code ?_
        refine c_seq ?_
        rcases bool_split h71 with ⟨rfl, g71⟩ | ⟨rfl, g71⟩
        · refine c_cond_f rfl ?_
          refine c_exit ?_
          refine x_code ?_
          refine x_lp ?_
          refine x_here ?_
          refine go_code ?_
          refine c_seq ?_
          obtain rfl : j = l.length := by omega
          have ht : (l.map iv).take l.length = l.map iv := by rw [← hll]; exact List.take_length
          simp only [ht, Nat.sub_self, List.replicate_zero, List.append_nil]
          refine c_freeze (i := 0) (al' := [(14, .seq 1 (l.map iv)), (13, .val (.int .i64 n))]) rfl rfl (fun e he => by obtain ⟨x, _, rfl⟩ := List.mem_map.1 he; rfl) hll (by omega) (Frz.arr rfl (Frz.cons rfl (Le.refl _) Frz.nil)) ?_
          refine c_region ?_
          refine AOps.st 85 rfl rfl rfl (op_move rfl rfl ?_)
          refine AOps.st 86 rfl rfl rfl (op_move rfl rfl ?_)
          refine AOps.st 4 rfl rfl rfl (op_assign rfl rfl ?_)
          refine AOps.st 5 rfl rfl rfl (op_assign rfl rfl ?_)
          refine AOps.st 6 rfl rfl rfl (op_assign rfl rfl ?_)
          refine AOps.nil ?_
          refine go_code ?_
          refine c_ret ?_
          exact out_ttt rfl rfl rfl rfl (Le.refl _) (by first | exact MLe.none _ | exact MLe.refl _ | (repeat' (first | exact MLe.nil | exact MLe.refl _ | refine MLe.cons _ ?_ | refine MLe.drop _ ?_))) ⟨rfl, rfl⟩
        · refine c_cond_t rfl ?_
          refine c_skip ?_
          refine go_code ?_
          refine c_seq ?_
          refine c_block ?_
          refine c_seq ?_
          obtain ⟨x, hx⟩ := getk (l := l) (i := j) (by omega)
          have hPx := hPj j x hx
          have hxv : (l.map iv)[j]? = some (iv x) := by rw [List.getElem?_map, hx]; rfl
          have hstep := fill_step (z := iv 0) hll hxv
          have hwid : ∀ e ∈ (l.map iv).take j ++ List.replicate (l.length - j) (iv 0), e.length = 1 := fun e he => by
            rcases List.mem_append.1 he with he | he
            · obtain ⟨x, _, rfl⟩ := List.mem_map.1 (List.mem_of_mem_take he); rfl
            · rw [(List.mem_replicate.1 he).2]; rfl
          refine c_region ?_
          refine AOps.st 72 rfl rfl rfl (op_move rfl rfl ?_)
          refine AOps.st 15 rfl rfl rfl (op_assign rfl rfl ?_)
          refine AOps.nil ?_
          refine go_code ?_
          refine c_region ?_
          refine AOps.st 74 rfl rfl rfl (op_move rfl rfl ?_)
          refine AOps.st 75 rfl rfl rfl (op_move rfl rfl ?_)
          refine AOps.st 76 rfl rfl rfl (op_move rfl rfl ?_)
          refine AOps.st 77 rfl rfl rfl (op_move rfl rfl ?_)
          refine AOps.st 78 rfl rfl rfl (op_move rfl rfl ?_)
          first | (refine AOps.st 79 rfl rfl rfl (op_add rfl rfl rfl (IntWalk.i64_in _ (by omega)) ?_)) | (refine AOps.st 79 rfl rfl rfl (op_add rfl rfl rfl rfl ?_))
          refine AOps.st 80 rfl rfl rfl (op_callk (xs := [.tmp 76, .tmp 77, .tmp 79]) [1,1,1] rfl rfl rfl (hPx) (by first | exact Les.refl _ | (repeat' (first | exact Les.refl _ | refine Les.cons ?_ ?_ | exact Le.refl _ | exact Le.own _ _ _ | exact Le.nil _ | refine Le.agg ?_))) ?_)
          refine AOps.st 73 rfl rfl rfl (op_move rfl rfl ?_)
          refine AOps.st 81 rfl rfl rfl (op_extract rfl rfl rfl ?_)
          refine AOps.st 82 rfl rfl rfl (op_extract rfl rfl rfl ?_)
          first | (refine AOps.st 83 rfl rfl rfl (op_index rfl te_34 rfl (.seq _ _) rfl rfl (by assumption) ?_)) | (refine AOps.st 83 rfl rfl rfl (op_index (i := 0) rfl te_34 rfl (.seq _ _) rfl rfl (by first | rfl | assumption) ?_)) | (refine AOps.st 83 rfl rfl rfl (op_index (i := 1) rfl te_34 rfl (.seq _ _) rfl rfl (by first | rfl | assumption) ?_)) | (refine AOps.st 83 rfl rfl rfl (op_index rfl te_34 rfl (.own _ _ _) rfl rfl (by assumption) ?_)) | (refine AOps.st 83 rfl rfl rfl (op_index (i := 0) rfl te_34 rfl (.own _ _ _) rfl rfl (by first | rfl | assumption) ?_)) | (refine AOps.st 83 rfl rfl rfl (op_index (i := 1) rfl te_34 rfl (.own _ _ _) rfl rfl (by first | rfl | assumption) ?_)) | (refine AOps.st 83 rfl rfl rfl (op_index_arr rfl te_34 rfl rfl rfl (by omega) ?_))
          refine AOps.st0 rfl rfl (op_store_row (k := 0) rfl ts_42 rfl rfl rfl rfl rfl (hwid) ((by simp; omega)) ?_)
          refine AOps.nil ?_
          refine go_blk ?_
          refine go_code ?_
          refine c_region ?_
          first | (refine AOps.st 84 rfl rfl rfl (op_add rfl rfl rfl (IntWalk.i64_in _ (by omega)) ?_)) | (refine AOps.st 84 rfl rfl rfl (op_add rfl rfl rfl rfl ?_))
          refine AOps.st 70 rfl rfl rfl (op_move rfl rfl ?_)
          refine AOps.nil ?_
          refine go_lp ?_
          refine ⟨j + 1, by have := get_lt hx; omega, by have := get_lt hx; show l.length - (j + 1) < l.length - j; omega, (by repeat' (first | exact SLe.nil _ | refine SLe.cons rfl ?_ ?_ | exact Le.refl _ | exact Le.own _ _ _ | exact Le.nil _)), ?_⟩
          refine MLe.of_eq ?_
          dsimp only
          rw [← hstep]
          rfl
      · refine c_cond_t rfl ?_
        refine c_seq ?_
        exact g64.elim
    · refine c_cond_t rfl ?_
      refine c_seq ?_
      exact g33.elim
set_option maxHeartbeats 4000000 in
set_option maxRecDepth 100000 in
theorem words_none (b : Nat) (sz : Int) (H : List HO) (M : Mem) (hM : HeapAt b sz H M) (h : 0 < sz) (hH : ∀ o ∈ H, o.ok) (hu : used H ≤ 16777216) (w : Int) (h0 : 0 ≤ w) (h1 : w ≤ 18446744073709551615) (hw : ∀ o, objOf H w = some o → ¬ wordsOk o) :
    KCall Try.prog 51 [.ptr b 0, .val (.int .u64 w)] M (.tup [.val (.slice none 0 0), .val (.int .i64 0), .val (.bool false)]) := by
  have hL := Look_c b sz H M hM h hH hu w h0 h1
  have hP := Part_c b sz H M hM h hH hu w h0 h1 0
  obtain ⟨r0, r1, r2, rfl⟩ := hM.three
  unfold lookV at hL
  cases ho : objOf H w with
  | none =>
    rw [ho] at hL
    simp only at hL
    refine ACall.enter Try.func51 rfl (by kernel_rfl) rfl (Nat.le_of_ble_eq_true rfl) ?_
    refine c_start ?_
    refine c_seq ?_
    refine c_region ?_
    refine AOps.st 4 rfl rfl rfl (op_assign rfl rfl ?_)
    refine AOps.st 5 rfl rfl rfl (op_assign rfl rfl ?_)
    refine AOps.st 6 rfl rfl rfl (op_assign rfl rfl ?_)
    refine AOps.nil ?_
    refine go_code ?_
    refine c_seq ?_
    refine c_region ?_
    refine AOps.st 17 rfl rfl rfl (op_move rfl rfl ?_)
    refine AOps.st 18 rfl rfl rfl (op_move rfl rfl ?_)
    refine AOps.st 19 rfl rfl rfl (op_callk (xs := [.tmp 17, .tmp 18]) [0,0,0] rfl rfl rfl (hL) (by first | exact Les.refl _ | (repeat' (first | exact Les.refl _ | refine Les.cons ?_ ?_ | exact Le.refl _ | exact Le.own _ _ _ | exact Le.nil _ | refine Le.agg ?_))) ?_)
    refine AOps.st 16 rfl rfl rfl (op_move rfl rfl ?_)
    refine AOps.st 20 rfl rfl rfl (op_extract rfl rfl rfl ?_)
    refine AOps.st 21 rfl rfl rfl (op_extract rfl rfl rfl ?_)
    refine AOps.st 22 rfl rfl rfl (op_extract rfl rfl rfl ?_)
    refine AOps.st 23 rfl rfl rfl (op_extract rfl rfl rfl ?_)
    refine AOps.st 7 rfl rfl rfl (op_assign rfl rfl ?_)
    refine AOps.st 8 rfl rfl rfl (op_assign rfl rfl ?_)
    refine AOps.st 9 rfl rfl rfl (op_assign rfl rfl ?_)
    refine AOps.st 10 rfl rfl rfl (op_assign rfl rfl ?_)
    refine AOps.nil ?_
    refine go_code ?_
    refine c_seq ?_
    refine c_seq ?_
    refine c_bool 33 (True) ?_ _ _ rfl ?_
    · skip
      refine AOps.st 24 rfl rfl rfl (op_move rfl rfl ?_)
      refine AOps.st 25 rfl rfl rfl (op_notc rfl rfl ?_); intro c25 h25
      try replace h25 := nott h25 h23
      refine AOps.st 26 rfl rfl rfl (op_move rfl rfl ?_)
      rcases bool_split h25 with ⟨rfl, g25⟩ | ⟨rfl, g25⟩
      · skip
        refine AOps.gt 27 rfl rfl rfl rfl rfl (op_move rfl rfl ?_)
        refine AOps.gt 28 rfl rfl rfl rfl rfl (op_neq rfl rfl rfl ?_); intro c28 h28
        refine AOps.st 29 rfl rfl rfl (op_pick rfl rfl rfl ?_)
        refine AOps.st 30 rfl rfl rfl (op_move rfl rfl ?_)
        rcases bool_split h28 with ⟨rfl, g28⟩ | ⟨rfl, g28⟩
        · skip
          refine AOps.gt 31 rfl rfl rfl rfl rfl (op_move rfl rfl ?_)
          refine AOps.gt 32 rfl rfl rfl rfl rfl (op_neq rfl rfl rfl ?_); intro c32 h32
          refine AOps.st 33 rfl rfl rfl (op_pick rfl rfl rfl ?_)
          refine AOps.nil ?_
          refine BoolQ.mk rfl ?_ (by repeat' (first | exact SLe.wo _ _ | exact SLe.refl _ | refine SLe.fresh rfl ?_)) (by first | exact MLe.none _ | exact MLe.refl _ | (repeat' (first | exact MLe.nil | exact MLe.refl _ | refine MLe.cons _ ?_ | refine MLe.drop _ ?_)))
          first | (simp_all; done) | (simp_all; omega)
        · skip
          refine AOps.gf 31 rfl rfl rfl rfl rfl ?_
          refine AOps.gf 32 rfl rfl rfl rfl rfl ?_
          refine AOps.st 33 rfl rfl rfl (op_pick rfl rfl rfl ?_)
          refine AOps.nil ?_
          refine BoolQ.mk rfl ?_ (by repeat' (first | exact SLe.wo _ _ | exact SLe.refl _ | refine SLe.fresh rfl ?_)) (by first | exact MLe.none _ | exact MLe.refl _ | (repeat' (first | exact MLe.nil | exact MLe.refl _ | refine MLe.cons _ ?_ | refine MLe.drop _ ?_)))
          first | (simp_all; done) | (simp_all; omega)
      · skip
        refine AOps.gf 27 rfl rfl rfl rfl rfl ?_
        refine AOps.gf 28 rfl rfl rfl rfl rfl ?_
        refine AOps.st 29 rfl rfl rfl (op_pick rfl rfl rfl ?_)
        refine AOps.st 30 rfl rfl rfl (op_move rfl rfl ?_)
        refine AOps.gf 31 rfl rfl rfl rfl rfl ?_
        refine AOps.gf 32 rfl rfl rfl rfl rfl ?_
        refine AOps.st 33 rfl rfl rfl (op_pick rfl rfl rfl ?_)
        refine AOps.nil ?_
        refine BoolQ.mk rfl ?_ (by repeat' (first | exact SLe.wo _ _ | exact SLe.refl _ | refine SLe.fresh rfl ?_)) (by first | exact MLe.none _ | exact MLe.refl _ | (repeat' (first | exact MLe.nil | exact MLe.refl _ | refine MLe.cons _ ?_ | refine MLe.drop _ ?_)))
        first | (simp_all; done) | (simp_all; omega)
    intro c33 h33
    refine go_code ?_
    rcases bool_split h33 with ⟨rfl, g33⟩ | ⟨rfl, g33⟩
    · refine c_cond_f rfl ?_
      refine c_skip ?_
      refine go_code ?_
      refine c_seq ?_
      exact absurd trivial g33
    · refine c_cond_t rfl ?_
      refine c_seq ?_
      refine c_region ?_
      refine AOps.st 4 rfl rfl rfl (op_assign rfl rfl ?_)
      refine AOps.st 5 rfl rfl rfl (op_assign rfl rfl ?_)
      refine AOps.st 6 rfl rfl rfl (op_assign rfl rfl ?_)
      refine AOps.nil ?_
      refine go_code ?_
      refine c_ret ?_
      exact out_ttt rfl rfl rfl rfl (Le.refl _) (by first | exact MLe.none _ | exact MLe.refl _ | (repeat' (first | exact MLe.nil | exact MLe.refl _ | refine MLe.cons _ ?_ | refine MLe.drop _ ?_))) ⟨rfl, rfl⟩
  | some o =>
    have hmem : o ∈ H := (obj_at ho).choose_spec.2.2.2.2.2.2
    have hw := hw o ho
    obtain ⟨k1, k2, k3⟩ := hH o hmem
    have hpl : o.parts.length ≤ 16777216 := by unfold headOk at k1; simp only [Bool.and_eq_true, decide_eq_true_eq] at k1; omega
    rw [ho] at hL
    simp only at hL
    by_cases hk : o.kind = 3 ∧ o.tag = 0
    · unfold partR partV at hP
      rw [ho] at hP
      obtain ⟨kd, tg, ps⟩ := o
      cases ps with
      | nil => simp at k2
      | cons p l =>
        simp only [Int.le_refl, if_true, List.length_cons] at *
        have e0 : (p :: l)[(0 : Int).toNat]? = some p := rfl
        rw [e0] at hP
        simp only at hP
        have hp := k3 p (by simp)
        have hT := ToInt_p p hp.1 hp.2
        unfold wordsOk at hw
        simp only [List.headD_cons, List.length_cons] at hw
        have hb : -4611686018427387904 ≤ toI p ∧ toI p ≤ 4611686018427387904 := by unfold toI W63; split <;> omega
        have hN := Need_c (toI p) (by omega) (by omega)
        generalize toI p = tp at *
        generalize isI p = ip at *
        have hnb : need tp ≤ 9000000000000000000 := by unfold need; omega
        generalize need tp = nn at *
        refine ACall.enter Try.func51 rfl (by kernel_rfl) rfl (Nat.le_of_ble_eq_true rfl) ?_
        refine c_start ?_
        refine c_seq ?_
        refine c_region ?_
        refine AOps.st 4 rfl rfl rfl (op_assign rfl rfl ?_)
        refine AOps.st 5 rfl rfl rfl (op_assign rfl rfl ?_)
        refine AOps.st 6 rfl rfl rfl (op_assign rfl rfl ?_)
        refine AOps.nil ?_
        refine go_code ?_
        refine c_seq ?_
        refine c_region ?_
        refine AOps.st 17 rfl rfl rfl (op_move rfl rfl ?_)
        refine AOps.st 18 rfl rfl rfl (op_move rfl rfl ?_)
        refine AOps.st 19 rfl rfl rfl (op_callk (xs := [.tmp 17, .tmp 18]) [0,0,0] rfl rfl rfl (hL) (by first | exact Les.refl _ | (repeat' (first | exact Les.refl _ | refine Les.cons ?_ ?_ | exact Le.refl _ | exact Le.own _ _ _ | exact Le.nil _ | refine Le.agg ?_))) ?_)
        refine AOps.st 16 rfl rfl rfl (op_move rfl rfl ?_)
        refine AOps.st 20 rfl rfl rfl (op_extract rfl rfl rfl ?_)
        refine AOps.st 21 rfl rfl rfl (op_extract rfl rfl rfl ?_)
        refine AOps.st 22 rfl rfl rfl (op_extract rfl rfl rfl ?_)
        refine AOps.st 23 rfl rfl rfl (op_extract rfl rfl rfl ?_)
        refine AOps.st 7 rfl rfl rfl (op_assign rfl rfl ?_)
        refine AOps.st 8 rfl rfl rfl (op_assign rfl rfl ?_)
        refine AOps.st 9 rfl rfl rfl (op_assign rfl rfl ?_)
        refine AOps.st 10 rfl rfl rfl (op_assign rfl rfl ?_)
        refine AOps.nil ?_
        refine go_code ?_
        refine c_seq ?_
        refine c_seq ?_
        refine c_bool 33 (False) ?_ _ _ rfl ?_
        · skip
          refine AOps.st 24 rfl rfl rfl (op_move rfl rfl ?_)
          refine AOps.st 25 rfl rfl rfl (op_notc rfl rfl ?_); intro c25 h25
          try replace h25 := nott h25 h23
          refine AOps.st 26 rfl rfl rfl (op_move rfl rfl ?_)
          rcases bool_split h25 with ⟨rfl, g25⟩ | ⟨rfl, g25⟩
          · skip
            refine AOps.gt 27 rfl rfl rfl rfl rfl (op_move rfl rfl ?_)
            refine AOps.gt 28 rfl rfl rfl rfl rfl (op_neq rfl rfl rfl ?_); intro c28 h28
            refine AOps.st 29 rfl rfl rfl (op_pick rfl rfl rfl ?_)
            refine AOps.st 30 rfl rfl rfl (op_move rfl rfl ?_)
            rcases bool_split h28 with ⟨rfl, g28⟩ | ⟨rfl, g28⟩
            · skip
              refine AOps.gt 31 rfl rfl rfl rfl rfl (op_move rfl rfl ?_)
              refine AOps.gt 32 rfl rfl rfl rfl rfl (op_neq rfl rfl rfl ?_); intro c32 h32
              refine AOps.st 33 rfl rfl rfl (op_pick rfl rfl rfl ?_)
              refine AOps.nil ?_
              refine BoolQ.mk rfl ?_ (by repeat' (first | exact SLe.wo _ _ | exact SLe.refl _ | refine SLe.fresh rfl ?_)) (by first | exact MLe.none _ | exact MLe.refl _ | (repeat' (first | exact MLe.nil | exact MLe.refl _ | refine MLe.cons _ ?_ | refine MLe.drop _ ?_)))
              first | (simp_all; done) | (simp_all; omega) | grind
            · skip
              refine AOps.gf 31 rfl rfl rfl rfl rfl ?_
              refine AOps.gf 32 rfl rfl rfl rfl rfl ?_
              refine AOps.st 33 rfl rfl rfl (op_pick rfl rfl rfl ?_)
              refine AOps.nil ?_
              refine BoolQ.mk rfl ?_ (by repeat' (first | exact SLe.wo _ _ | exact SLe.refl _ | refine SLe.fresh rfl ?_)) (by first | exact MLe.none _ | exact MLe.refl _ | (repeat' (first | exact MLe.nil | exact MLe.refl _ | refine MLe.cons _ ?_ | refine MLe.drop _ ?_)))
              first | (simp_all; done) | (simp_all; omega) | grind
          · skip
            refine AOps.gf 27 rfl rfl rfl rfl rfl ?_
            refine AOps.gf 28 rfl rfl rfl rfl rfl ?_
            refine AOps.st 29 rfl rfl rfl (op_pick rfl rfl rfl ?_)
            refine AOps.st 30 rfl rfl rfl (op_move rfl rfl ?_)
            refine AOps.gf 31 rfl rfl rfl rfl rfl ?_
            refine AOps.gf 32 rfl rfl rfl rfl rfl ?_
            refine AOps.st 33 rfl rfl rfl (op_pick rfl rfl rfl ?_)
            refine AOps.nil ?_
            refine BoolQ.mk rfl ?_ (by repeat' (first | exact SLe.wo _ _ | exact SLe.refl _ | refine SLe.fresh rfl ?_)) (by first | exact MLe.none _ | exact MLe.refl _ | (repeat' (first | exact MLe.nil | exact MLe.refl _ | refine MLe.cons _ ?_ | refine MLe.drop _ ?_)))
            first | (simp_all; done) | (simp_all; omega) | grind
        intro c33 h33
        refine go_code ?_
        rcases bool_split h33 with ⟨rfl, g33⟩ | ⟨rfl, g33⟩
        · refine c_cond_f rfl ?_
          refine c_skip ?_
          refine go_code ?_
          refine c_seq ?_
          refine c_region ?_
          refine AOps.st 35 rfl rfl rfl (op_move rfl rfl ?_)
          refine AOps.st 36 rfl rfl rfl (op_move rfl rfl ?_)
          refine AOps.st 37 rfl rfl rfl (op_callk (xs := [.tmp 35, .tmp 36, .const (.int .i64 0)]) [0,0,0] rfl rfl rfl (hP) (by first | exact Les.refl _ | (repeat' (first | exact Les.refl _ | refine Les.cons ?_ ?_ | exact Le.refl _ | exact Le.own _ _ _ | exact Le.nil _ | refine Le.agg ?_))) ?_)
          refine AOps.st 34 rfl rfl rfl (op_move rfl rfl ?_)
          refine AOps.st 38 rfl rfl rfl (op_extract rfl rfl rfl ?_)
          refine AOps.st 39 rfl rfl rfl (op_extract rfl rfl rfl ?_)
          refine AOps.st 11 rfl rfl rfl (op_assign rfl rfl ?_)
          refine AOps.st 12 rfl rfl rfl (op_assign rfl rfl ?_)
          refine AOps.nil ?_
          refine go_code ?_
          refine c_seq ?_
          refine c_region ?_
          refine AOps.st 41 rfl rfl rfl (op_move rfl rfl ?_)
          refine AOps.st 42 rfl rfl rfl (op_callp (xs := [.tmp 41]) rfl rfl (hT) (by first | exact Les.refl _ | (repeat' (first | exact Les.refl _ | refine Les.cons ?_ ?_ | exact Le.refl _ | exact Le.own _ _ _ | exact Le.nil _ | refine Le.agg ?_))) ?_)
          refine AOps.st 40 rfl rfl rfl (op_move rfl rfl ?_)
          refine AOps.st 43 rfl rfl rfl (op_extract rfl rfl rfl ?_)
          refine AOps.st 44 rfl rfl rfl (op_extract rfl rfl rfl ?_)
          refine AOps.st 13 rfl rfl rfl (op_assign rfl rfl ?_)
          refine AOps.st 10 rfl rfl rfl (op_assign rfl rfl ?_)
          refine AOps.nil ?_
          refine go_code ?_
          refine c_seq ?_
          refine c_seq ?_
          refine c_bool 64 (True) ?_ _ _ rfl ?_
          · skip
            refine AOps.st 45 rfl rfl rfl (op_move rfl rfl ?_)
            refine AOps.st 46 rfl rfl rfl (op_notc rfl rfl ?_); intro c46 h46
            try replace h46 := nott h46 h44
            refine AOps.st 47 rfl rfl rfl (op_move rfl rfl ?_)
            rcases bool_split h46 with ⟨rfl, g46⟩ | ⟨rfl, g46⟩
            · skip
              refine AOps.gt 48 rfl rfl rfl rfl rfl (op_move rfl rfl ?_)
              refine AOps.gt 49 rfl rfl rfl rfl rfl (op_lss rfl rfl rfl ?_); intro c49 h49
              refine AOps.st 50 rfl rfl rfl (op_pick rfl rfl rfl ?_)
              refine AOps.st 51 rfl rfl rfl (op_move rfl rfl ?_)
              rcases bool_split h49 with ⟨rfl, g49⟩ | ⟨rfl, g49⟩
              · skip
                refine AOps.gt 52 rfl rfl rfl rfl rfl (op_move rfl rfl ?_)
                refine AOps.gt 53 rfl rfl rfl rfl rfl (op_move rfl rfl ?_)
                first | (refine AOps.gt 54 rfl rfl rfl rfl rfl (op_sub rfl rfl rfl (IntWalk.i64_in _ (by omega)) ?_)) | (refine AOps.gt 54 rfl rfl rfl rfl rfl (op_sub rfl rfl rfl rfl ?_))
                first | (refine AOps.gt 55 rfl rfl rfl rfl rfl (op_mul rfl rfl rfl (IntWalk.i64_in _ (by omega)) ?_)) | (refine AOps.gt 55 rfl rfl rfl rfl rfl (op_mul rfl rfl rfl rfl ?_))
                refine AOps.gt 56 rfl rfl rfl rfl rfl (op_gtr rfl rfl rfl ?_); intro c56 h56
                refine AOps.st 57 rfl rfl rfl (op_pick rfl rfl rfl ?_)
                refine AOps.st 58 rfl rfl rfl (op_move rfl rfl ?_)
                rcases bool_split h56 with ⟨rfl, g56⟩ | ⟨rfl, g56⟩
                · skip
                  refine AOps.gt 59 rfl rfl rfl rfl rfl (op_move rfl rfl ?_)
                  refine AOps.gt 60 rfl rfl rfl rfl rfl (op_callp (xs := [.tmp 59]) rfl rfl (hN) (by first | exact Les.refl _ | (repeat' (first | exact Les.refl _ | refine Les.cons ?_ ?_ | exact Le.refl _ | exact Le.own _ _ _ | exact Le.nil _ | refine Le.agg ?_))) ?_)
                  refine AOps.gt 61 rfl rfl rfl rfl rfl (op_move rfl rfl ?_)
                  first | (refine AOps.gt 62 rfl rfl rfl rfl rfl (op_add rfl rfl rfl (IntWalk.i64_in _ (by omega)) ?_)) | (refine AOps.gt 62 rfl rfl rfl rfl rfl (op_add rfl rfl rfl rfl ?_))
                  refine AOps.gt 63 rfl rfl rfl rfl rfl (op_neq rfl rfl rfl ?_); intro c63 h63
                  refine AOps.st 64 rfl rfl rfl (op_pick rfl rfl rfl ?_)
                  refine AOps.nil ?_
                  refine BoolQ.mk rfl ?_ (by repeat' (first | exact SLe.wo _ _ | exact SLe.refl _ | refine SLe.fresh rfl ?_)) (by first | exact MLe.none _ | exact MLe.refl _ | (repeat' (first | exact MLe.nil | exact MLe.refl _ | refine MLe.cons _ ?_ | refine MLe.drop _ ?_)))
                  first | (simp_all; done) | (simp_all; omega) | grind
                · skip
                  refine AOps.gf 59 rfl rfl rfl rfl rfl ?_
                  refine AOps.gf 60 rfl rfl rfl rfl rfl ?_
                  refine AOps.gf 61 rfl rfl rfl rfl rfl ?_
                  refine AOps.gf 62 rfl rfl rfl rfl rfl ?_
                  refine AOps.gf 63 rfl rfl rfl rfl rfl ?_
                  refine AOps.st 64 rfl rfl rfl (op_pick rfl rfl rfl ?_)
                  refine AOps.nil ?_
                  refine BoolQ.mk rfl ?_ (by repeat' (first | exact SLe.wo _ _ | exact SLe.refl _ | refine SLe.fresh rfl ?_)) (by first | exact MLe.none _ | exact MLe.refl _ | (repeat' (first | exact MLe.nil | exact MLe.refl _ | refine MLe.cons _ ?_ | refine MLe.drop _ ?_)))
                  first | (simp_all; done) | (simp_all; omega) | grind
              · skip
                refine AOps.gf 52 rfl rfl rfl rfl rfl ?_
                refine AOps.gf 53 rfl rfl rfl rfl rfl ?_
                refine AOps.gf 54 rfl rfl rfl rfl rfl ?_
                refine AOps.gf 55 rfl rfl rfl rfl rfl ?_
                refine AOps.gf 56 rfl rfl rfl rfl rfl ?_
                refine AOps.st 57 rfl rfl rfl (op_pick rfl rfl rfl ?_)
                refine AOps.st 58 rfl rfl rfl (op_move rfl rfl ?_)
                refine AOps.gf 59 rfl rfl rfl rfl rfl ?_
                refine AOps.gf 60 rfl rfl rfl rfl rfl ?_
                refine AOps.gf 61 rfl rfl rfl rfl rfl ?_
                refine AOps.gf 62 rfl rfl rfl rfl rfl ?_
                refine AOps.gf 63 rfl rfl rfl rfl rfl ?_
                refine AOps.st 64 rfl rfl rfl (op_pick rfl rfl rfl ?_)
                refine AOps.nil ?_
                refine BoolQ.mk rfl ?_ (by repeat' (first | exact SLe.wo _ _ | exact SLe.refl _ | refine SLe.fresh rfl ?_)) (by first | exact MLe.none _ | exact MLe.refl _ | (repeat' (first | exact MLe.nil | exact MLe.refl _ | refine MLe.cons _ ?_ | refine MLe.drop _ ?_)))
                first | (simp_all; done) | (simp_all; omega) | grind
            · skip
              refine AOps.gf 48 rfl rfl rfl rfl rfl ?_
              refine AOps.gf 49 rfl rfl rfl rfl rfl ?_
              refine AOps.st 50 rfl rfl rfl (op_pick rfl rfl rfl ?_)
              refine AOps.st 51 rfl rfl rfl (op_move rfl rfl ?_)
              refine AOps.gf 52 rfl rfl rfl rfl rfl ?_
              refine AOps.gf 53 rfl rfl rfl rfl rfl ?_
              refine AOps.gf 54 rfl rfl rfl rfl rfl ?_
              refine AOps.gf 55 rfl rfl rfl rfl rfl ?_
              refine AOps.gf 56 rfl rfl rfl rfl rfl ?_
              refine AOps.st 57 rfl rfl rfl (op_pick rfl rfl rfl ?_)
              refine AOps.st 58 rfl rfl rfl (op_move rfl rfl ?_)
              refine AOps.gf 59 rfl rfl rfl rfl rfl ?_
              refine AOps.gf 60 rfl rfl rfl rfl rfl ?_
              refine AOps.gf 61 rfl rfl rfl rfl rfl ?_
              refine AOps.gf 62 rfl rfl rfl rfl rfl ?_
              refine AOps.gf 63 rfl rfl rfl rfl rfl ?_
              refine AOps.st 64 rfl rfl rfl (op_pick rfl rfl rfl ?_)
              refine AOps.nil ?_
              refine BoolQ.mk rfl ?_ (by repeat' (first | exact SLe.wo _ _ | exact SLe.refl _ | refine SLe.fresh rfl ?_)) (by first | exact MLe.none _ | exact MLe.refl _ | (repeat' (first | exact MLe.nil | exact MLe.refl _ | refine MLe.cons _ ?_ | refine MLe.drop _ ?_)))
              first | (simp_all; done) | (simp_all; omega) | grind
          intro c64 h64
          refine go_code ?_
          rcases bool_split h64 with ⟨rfl, g64⟩ | ⟨rfl, g64⟩
          · refine c_cond_f rfl ?_
            refine c_skip ?_
            refine go_code ?_
            refine c_seq ?_
            exact absurd trivial g64
          · refine c_cond_t rfl ?_
            refine c_seq ?_
            refine c_region ?_
            refine AOps.st 4 rfl rfl rfl (op_assign rfl rfl ?_)
            refine AOps.st 5 rfl rfl rfl (op_assign rfl rfl ?_)
            refine AOps.st 6 rfl rfl rfl (op_assign rfl rfl ?_)
            refine AOps.nil ?_
            refine go_code ?_
            refine c_ret ?_
            exact out_ttt rfl rfl rfl rfl (Le.refl _) (by first | exact MLe.none _ | exact MLe.refl _ | (repeat' (first | exact MLe.nil | exact MLe.refl _ | refine MLe.cons _ ?_ | refine MLe.drop _ ?_))) ⟨rfl, rfl⟩
        · refine c_cond_t rfl ?_
          refine c_seq ?_
          exact g33.elim
    · refine ACall.enter Try.func51 rfl (by kernel_rfl) rfl (Nat.le_of_ble_eq_true rfl) ?_
      refine c_start ?_
      refine c_seq ?_
      refine c_region ?_
      refine AOps.st 4 rfl rfl rfl (op_assign rfl rfl ?_)
      refine AOps.st 5 rfl rfl rfl (op_assign rfl rfl ?_)
      refine AOps.st 6 rfl rfl rfl (op_assign rfl rfl ?_)
      refine AOps.nil ?_
      refine go_code ?_
      refine c_seq ?_
      refine c_region ?_
      refine AOps.st 17 rfl rfl rfl (op_move rfl rfl ?_)
      refine AOps.st 18 rfl rfl rfl (op_move rfl rfl ?_)
      refine AOps.st 19 rfl rfl rfl (op_callk (xs := [.tmp 17, .tmp 18]) [0,0,0] rfl rfl rfl (hL) (by first | exact Les.refl _ | (repeat' (first | exact Les.refl _ | refine Les.cons ?_ ?_ | exact Le.refl _ | exact Le.own _ _ _ | exact Le.nil _ | refine Le.agg ?_))) ?_)
      refine AOps.st 16 rfl rfl rfl (op_move rfl rfl ?_)
      refine AOps.st 20 rfl rfl rfl (op_extract rfl rfl rfl ?_)
      refine AOps.st 21 rfl rfl rfl (op_extract rfl rfl rfl ?_)
      refine AOps.st 22 rfl rfl rfl (op_extract rfl rfl rfl ?_)
      refine AOps.st 23 rfl rfl rfl (op_extract rfl rfl rfl ?_)
      refine AOps.st 7 rfl rfl rfl (op_assign rfl rfl ?_)
      refine AOps.st 8 rfl rfl rfl (op_assign rfl rfl ?_)
      refine AOps.st 9 rfl rfl rfl (op_assign rfl rfl ?_)
      refine AOps.st 10 rfl rfl rfl (op_assign rfl rfl ?_)
      refine AOps.nil ?_
      refine go_code ?_
      refine c_seq ?_
      refine c_seq ?_
      refine c_bool 33 (True) ?_ _ _ rfl ?_
      · skip
        refine AOps.st 24 rfl rfl rfl (op_move rfl rfl ?_)
        refine AOps.st 25 rfl rfl rfl (op_notc rfl rfl ?_); intro c25 h25
        try replace h25 := nott h25 h23
        refine AOps.st 26 rfl rfl rfl (op_move rfl rfl ?_)
        rcases bool_split h25 with ⟨rfl, g25⟩ | ⟨rfl, g25⟩
        · skip
          refine AOps.gt 27 rfl rfl rfl rfl rfl (op_move rfl rfl ?_)
          refine AOps.gt 28 rfl rfl rfl rfl rfl (op_neq rfl rfl rfl ?_); intro c28 h28
          refine AOps.st 29 rfl rfl rfl (op_pick rfl rfl rfl ?_)
          refine AOps.st 30 rfl rfl rfl (op_move rfl rfl ?_)
          rcases bool_split h28 with ⟨rfl, g28⟩ | ⟨rfl, g28⟩
          · skip
            refine AOps.gt 31 rfl rfl rfl rfl rfl (op_move rfl rfl ?_)
            refine AOps.gt 32 rfl rfl rfl rfl rfl (op_neq rfl rfl rfl ?_); intro c32 h32
            refine AOps.st 33 rfl rfl rfl (op_pick rfl rfl rfl ?_)
            refine AOps.nil ?_
            refine BoolQ.mk rfl ?_ (by repeat' (first | exact SLe.wo _ _ | exact SLe.refl _ | refine SLe.fresh rfl ?_)) (by first | exact MLe.none _ | exact MLe.refl _ | (repeat' (first | exact MLe.nil | exact MLe.refl _ | refine MLe.cons _ ?_ | refine MLe.drop _ ?_)))
            first | (simp_all; done) | (simp_all; omega) | grind
          · skip
            refine AOps.gf 31 rfl rfl rfl rfl rfl ?_
            refine AOps.gf 32 rfl rfl rfl rfl rfl ?_
            refine AOps.st 33 rfl rfl rfl (op_pick rfl rfl rfl ?_)
            refine AOps.nil ?_
            refine BoolQ.mk rfl ?_ (by repeat' (first | exact SLe.wo _ _ | exact SLe.refl _ | refine SLe.fresh rfl ?_)) (by first | exact MLe.none _ | exact MLe.refl _ | (repeat' (first | exact MLe.nil | exact MLe.refl _ | refine MLe.cons _ ?_ | refine MLe.drop _ ?_)))
            first | (simp_all; done) | (simp_all; omega) | grind
        · skip
          refine AOps.gf 27 rfl rfl rfl rfl rfl ?_
          refine AOps.gf 28 rfl rfl rfl rfl rfl ?_
          refine AOps.st 29 rfl rfl rfl (op_pick rfl rfl rfl ?_)
          refine AOps.st 30 rfl rfl rfl (op_move rfl rfl ?_)
          refine AOps.gf 31 rfl rfl rfl rfl rfl ?_
          refine AOps.gf 32 rfl rfl rfl rfl rfl ?_
          refine AOps.st 33 rfl rfl rfl (op_pick rfl rfl rfl ?_)
          refine AOps.nil ?_
          refine BoolQ.mk rfl ?_ (by repeat' (first | exact SLe.wo _ _ | exact SLe.refl _ | refine SLe.fresh rfl ?_)) (by first | exact MLe.none _ | exact MLe.refl _ | (repeat' (first | exact MLe.nil | exact MLe.refl _ | refine MLe.cons _ ?_ | refine MLe.drop _ ?_)))
          first | (simp_all; done) | (simp_all; omega) | grind
      intro c33 h33
      refine go_code ?_
      rcases bool_split h33 with ⟨rfl, g33⟩ | ⟨rfl, g33⟩
      · refine c_cond_f rfl ?_
        refine c_skip ?_
        refine go_code ?_
        refine c_seq ?_
        exact absurd trivial g33
      · refine c_cond_t rfl ?_
        refine c_seq ?_
        refine c_region ?_
        refine AOps.st 4 rfl rfl rfl (op_assign rfl rfl ?_)
        refine AOps.st 5 rfl rfl rfl (op_assign rfl rfl ?_)
        refine AOps.st 6 rfl rfl rfl (op_assign rfl rfl ?_)
        refine AOps.nil ?_
        refine go_code ?_
        refine c_ret ?_
        exact out_ttt rfl rfl rfl rfl (Le.refl _) (by first | exact MLe.none _ | exact MLe.refl _ | (repeat' (first | exact MLe.nil | exact MLe.refl _ | refine MLe.cons _ ?_ | refine MLe.drop _ ?_))) ⟨rfl, rfl⟩
set_option maxHeartbeats 4000000 in
set_option maxRecDepth 100000 in
theorem Get_c (b : Nat) (sz : Int) (H : List HO) (M : Mem) (hM : HeapAt b sz H M) (h : 0 < sz) (hH : ∀ o ∈ H, o.ok) (hu : used H ≤ 1000000) (w : Int) (h0 : 0 ≤ w) (h1 : w ≤ 18446744073709551615) : KCall Try.prog 31 [.ptr b 0, .val (.int .u64 w)] M (getR H w) := by
  have hN := words_none b sz H M hM h hH (by omega) w h0 h1
  have hS := words_some b sz H M hM h hH (by omega) w h0 h1
  obtain ⟨r0, r1, r2, rfl⟩ := hM.three
  unfold getR getT
  cases ho : objOf H w with
  | none =>
    have hN := hN (fun o q => by rw [ho] at q; cases q)
    simp only
    refine ACall.enter Try.func31 rfl (by kernel_rfl) rfl (Nat.le_of_ble_eq_true rfl) ?_
    refine c_start ?_
    refine c_seq ?_
    refine c_region ?_
    refine AOps.st 4 rfl rfl rfl (op_assign rfl rfl ?_)
    refine AOps.st 5 rfl rfl rfl (op_assign rfl rfl ?_)
    refine AOps.nil ?_
    refine go_code ?_
    refine c_seq ?_
    refine c_region ?_
    refine AOps.st 12 rfl rfl rfl (op_move rfl rfl ?_)
    refine AOps.st 13 rfl rfl rfl (op_move rfl rfl ?_)
    refine AOps.st 14 rfl rfl rfl (op_callk (xs := [.tmp 12, .tmp 13]) [0,0,0] rfl rfl rfl (hN) (by first | exact Les.refl _ | (repeat' (first | exact Les.refl _ | refine Les.cons ?_ ?_ | exact Le.refl _ | exact Le.own _ _ _ | exact Le.nil _ | refine Le.agg ?_))) ?_)
    refine AOps.st 11 rfl rfl rfl (op_move rfl rfl ?_)
    refine AOps.st 15 rfl rfl rfl (op_extract rfl rfl rfl ?_)
    refine AOps.st 16 rfl rfl rfl (op_extract rfl rfl rfl ?_)
    refine AOps.st 17 rfl rfl rfl (op_extract rfl rfl rfl ?_)
    refine AOps.st 6 rfl rfl rfl (op_assign rfl rfl ?_)
    refine AOps.st 7 rfl rfl rfl (op_assign rfl rfl ?_)
    refine AOps.st 8 rfl rfl rfl (op_assign rfl rfl ?_)
    refine AOps.nil ?_
    refine go_code ?_
    refine c_seq ?_
    refine c_seq ?_
    refine c_region ?_
    refine AOps.st 18 rfl rfl rfl (op_move rfl rfl ?_)
    refine AOps.st 19 rfl rfl rfl (op_notc rfl rfl ?_); intro c19 h19
    try replace h19 := nott h19 h17
    refine AOps.nil ?_
    refine go_code ?_
    rcases bool_split h19 with ⟨rfl, g19⟩ | ⟨rfl, g19⟩
    · refine c_cond_f rfl ?_
      refine c_skip ?_
      refine go_code ?_
      refine c_seq ?_
      exact absurd g19 (by simp)
    · refine c_cond_t rfl ?_
      refine c_seq ?_
      refine c_region ?_
      refine AOps.st 4 rfl rfl rfl (op_assign rfl rfl ?_)
      refine AOps.st 5 rfl rfl rfl (op_assign rfl rfl ?_)
      refine AOps.nil ?_
      refine go_code ?_
      refine c_ret ?_
      exact out_tt rfl rfl rfl (Le.refl _) (by first | exact MLe.none _ | exact MLe.refl _ | (repeat' (first | exact MLe.nil | exact MLe.refl _ | refine MLe.cons _ ?_ | refine MLe.drop _ ?_))) ⟨rfl, rfl⟩
  | some o =>
    obtain ⟨a, _, _, a3, _, _, _, hmem⟩ := obj_at ho
    obtain ⟨k1, k2, k3⟩ := hH o hmem
    by_cases hw : wordsOk o
    · have hS := hS o ho hw
      have hnat := natsOf_cast (l := o.parts.tail) (fun x hx => (k3 x (List.mem_of_mem_tail hx)).1)
      have hlt : ∀ x ∈ natsOf o.parts.tail, x < 18446744073709551616 := by
        intro x hx
        obtain ⟨y, hy, rfl⟩ := List.mem_map.1 hx
        have := k3 y (List.mem_of_mem_tail hy)
        omega
      have hU := Unpack_p (natsOf o.parts.tail) (toI (o.parts.headD 0)) hlt (by simp [natsOf]; omega)
      rw [show (natsOf o.parts.tail).map ivN = (o.parts.tail).map iv by have e := congrArg (List.map iv) hnat; rw [List.map_map] at e; exact e] at hU
      simp only [hw, true_and]
      cases ht : tOk (natsOf o.parts.tail) (toI (o.parts.headD 0)) with
      | true =>
        rw [ht] at hU
        simp only [if_true]
        generalize tS (natsOf o.parts.tail) (toI (o.parts.headD 0)) = s at *
        refine ACall.enter Try.func31 rfl (by kernel_rfl) rfl (Nat.le_of_ble_eq_true rfl) ?_
        refine c_start ?_
        refine c_seq ?_
        refine c_region ?_
        refine AOps.st 4 rfl rfl rfl (op_assign rfl rfl ?_)
        refine AOps.st 5 rfl rfl rfl (op_assign rfl rfl ?_)
        refine AOps.nil ?_
        refine go_code ?_
        refine c_seq ?_
        refine c_region ?_
        refine AOps.st 12 rfl rfl rfl (op_move rfl rfl ?_)
        refine AOps.st 13 rfl rfl rfl (op_move rfl rfl ?_)
        refine AOps.st 14 rfl rfl rfl (op_callk (xs := [.tmp 12, .tmp 13]) [0,0,0] rfl rfl rfl (hS) (by first | exact Les.refl _ | (repeat' (first | exact Les.refl _ | refine Les.cons ?_ ?_ | exact Le.refl _ | exact Le.own _ _ _ | exact Le.nil _ | refine Le.agg ?_))) ?_)
        refine AOps.st 11 rfl rfl rfl (op_move rfl rfl ?_)
        refine AOps.st 15 rfl rfl rfl (op_extract rfl rfl rfl ?_)
        refine AOps.st 16 rfl rfl rfl (op_extract rfl rfl rfl ?_)
        refine AOps.st 17 rfl rfl rfl (op_extract rfl rfl rfl ?_)
        refine AOps.st 6 rfl rfl rfl (op_assign rfl rfl ?_)
        refine AOps.st 7 rfl rfl rfl (op_assign rfl rfl ?_)
        refine AOps.st 8 rfl rfl rfl (op_assign rfl rfl ?_)
        refine AOps.nil ?_
        refine go_code ?_
        refine c_seq ?_
        refine c_seq ?_
        refine c_region ?_
        refine AOps.st 18 rfl rfl rfl (op_move rfl rfl ?_)
        refine AOps.st 19 rfl rfl rfl (op_notc rfl rfl ?_); intro c19 h19
        try replace h19 := nott h19 h17
        refine AOps.nil ?_
        refine go_code ?_
        rcases bool_split h19 with ⟨rfl, g19⟩ | ⟨rfl, g19⟩
        · refine c_cond_f rfl ?_
          refine c_skip ?_
          refine go_code ?_
          refine c_seq ?_
          refine c_region ?_
          refine AOps.st 21 rfl rfl rfl (op_move rfl rfl ?_)
          refine AOps.st 22 rfl rfl rfl (op_move rfl rfl ?_)
          refine AOps.st 23 rfl rfl rfl (op_callp (xs := [.tmp 21, .tmp 22]) rfl rfl (hU) (by first | exact Les.refl _ | (repeat' (first | exact Les.refl _ | refine Les.cons ?_ ?_ | exact Le.refl _ | exact Le.own _ _ _ | exact Le.nil _ | refine Le.agg ?_))) ?_)
          refine AOps.st 20 rfl rfl rfl (op_move rfl rfl ?_)
          refine AOps.st 24 rfl rfl rfl (op_extract rfl rfl rfl ?_)
          refine AOps.st 25 rfl rfl rfl (op_extract rfl rfl rfl ?_)
          refine AOps.st 9 rfl rfl rfl (op_assign rfl rfl ?_)
          refine AOps.st 10 rfl rfl rfl (op_assign rfl rfl ?_)
          refine AOps.nil ?_
          refine go_code ?_
          refine c_seq ?_
          refine c_region ?_
          refine AOps.st 26 rfl rfl rfl (op_move rfl rfl ?_)
          refine AOps.st 27 rfl rfl rfl (op_move rfl rfl ?_)
          refine AOps.st 28 rfl rfl rfl (op_eql rfl rfl rfl ?_); intro c28 h28
          refine AOps.st 4 rfl rfl rfl (op_assign rfl rfl ?_)
          refine AOps.st 5 rfl rfl rfl (op_assign rfl rfl ?_)
          refine AOps.nil ?_
          refine go_code ?_
          refine c_ret ?_
          exact out_tt rfl rfl rfl (Le.tup (Les.cons (Le.refl _) (Les.cons (Le.beq (by simpa [okE] using h28)) (Les.refl _)))) (by first | exact MLe.none _ | exact MLe.refl _ | (repeat' (first | exact MLe.nil | exact MLe.refl _ | refine MLe.cons _ ?_ | refine MLe.drop _ ?_))) ⟨rfl, rfl⟩
        · refine c_cond_t rfl ?_
          refine c_seq ?_
          exact absurd g19 (by simp)
      | false =>
        have hs0 : tS (natsOf o.parts.tail) (toI (o.parts.headD 0)) = ⟨#[]⟩ := by unfold tS unpS; rw [ht]; rfl
        rw [ht, hs0] at hU
        simp only [Bool.false_eq_true, if_false]
        refine ACall.enter Try.func31 rfl (by kernel_rfl) rfl (Nat.le_of_ble_eq_true rfl) ?_
        refine c_start ?_
        refine c_seq ?_
        refine c_region ?_
        refine AOps.st 4 rfl rfl rfl (op_assign rfl rfl ?_)
        refine AOps.st 5 rfl rfl rfl (op_assign rfl rfl ?_)
        refine AOps.nil ?_
        refine go_code ?_
        refine c_seq ?_
        refine c_region ?_
        refine AOps.st 12 rfl rfl rfl (op_move rfl rfl ?_)
        refine AOps.st 13 rfl rfl rfl (op_move rfl rfl ?_)
        refine AOps.st 14 rfl rfl rfl (op_callk (xs := [.tmp 12, .tmp 13]) [0,0,0] rfl rfl rfl (hS) (by first | exact Les.refl _ | (repeat' (first | exact Les.refl _ | refine Les.cons ?_ ?_ | exact Le.refl _ | exact Le.own _ _ _ | exact Le.nil _ | refine Le.agg ?_))) ?_)
        refine AOps.st 11 rfl rfl rfl (op_move rfl rfl ?_)
        refine AOps.st 15 rfl rfl rfl (op_extract rfl rfl rfl ?_)
        refine AOps.st 16 rfl rfl rfl (op_extract rfl rfl rfl ?_)
        refine AOps.st 17 rfl rfl rfl (op_extract rfl rfl rfl ?_)
        refine AOps.st 6 rfl rfl rfl (op_assign rfl rfl ?_)
        refine AOps.st 7 rfl rfl rfl (op_assign rfl rfl ?_)
        refine AOps.st 8 rfl rfl rfl (op_assign rfl rfl ?_)
        refine AOps.nil ?_
        refine go_code ?_
        refine c_seq ?_
        refine c_seq ?_
        refine c_region ?_
        refine AOps.st 18 rfl rfl rfl (op_move rfl rfl ?_)
        refine AOps.st 19 rfl rfl rfl (op_notc rfl rfl ?_); intro c19 h19
        try replace h19 := nott h19 h17
        refine AOps.nil ?_
        refine go_code ?_
        rcases bool_split h19 with ⟨rfl, g19⟩ | ⟨rfl, g19⟩
        · refine c_cond_f rfl ?_
          refine c_skip ?_
          refine go_code ?_
          refine c_seq ?_
          refine c_region ?_
          refine AOps.st 21 rfl rfl rfl (op_move rfl rfl ?_)
          refine AOps.st 22 rfl rfl rfl (op_move rfl rfl ?_)
          refine AOps.st 23 rfl rfl rfl (op_callp (xs := [.tmp 21, .tmp 22]) rfl rfl (hU) (by first | exact Les.refl _ | (repeat' (first | exact Les.refl _ | refine Les.cons ?_ ?_ | exact Le.refl _ | exact Le.own _ _ _ | exact Le.nil _ | refine Le.agg ?_))) ?_)
          refine AOps.st 20 rfl rfl rfl (op_move rfl rfl ?_)
          refine AOps.st 24 rfl rfl rfl (op_extract rfl rfl rfl ?_)
          refine AOps.st 25 rfl rfl rfl (op_extract rfl rfl rfl ?_)
          refine AOps.st 9 rfl rfl rfl (op_assign rfl rfl ?_)
          refine AOps.st 10 rfl rfl rfl (op_assign rfl rfl ?_)
          refine AOps.nil ?_
          refine go_code ?_
          refine c_seq ?_
          refine c_region ?_
          refine AOps.st 26 rfl rfl rfl (op_move rfl rfl ?_)
          refine AOps.st 27 rfl rfl rfl (op_move rfl rfl ?_)
          refine AOps.st 28 rfl rfl rfl (op_eql rfl rfl rfl ?_); intro c28 h28
          refine AOps.st 4 rfl rfl rfl (op_assign rfl rfl ?_)
          refine AOps.st 5 rfl rfl rfl (op_assign rfl rfl ?_)
          refine AOps.nil ?_
          refine go_code ?_
          refine c_ret ?_
          exact out_tt rfl rfl rfl (Le.tup (Les.cons (Le.refl _) (Les.cons (Le.beq (by simpa [okE] using h28)) (Les.refl _)))) (by first | exact MLe.none _ | exact MLe.refl _ | (repeat' (first | exact MLe.nil | exact MLe.refl _ | refine MLe.cons _ ?_ | refine MLe.drop _ ?_))) ⟨rfl, rfl⟩
        · refine c_cond_t rfl ?_
          refine c_seq ?_
          exact absurd g19 (by simp)
    · have hN := hN (fun o' q => by rw [ho] at q; cases q; exact hw)
      simp only [hw, false_and, if_false]
      refine ACall.enter Try.func31 rfl (by kernel_rfl) rfl (Nat.le_of_ble_eq_true rfl) ?_
      refine c_start ?_
      refine c_seq ?_
      refine c_region ?_
      refine AOps.st 4 rfl rfl rfl (op_assign rfl rfl ?_)
      refine AOps.st 5 rfl rfl rfl (op_assign rfl rfl ?_)
      refine AOps.nil ?_
      refine go_code ?_
      refine c_seq ?_
      refine c_region ?_
      refine AOps.st 12 rfl rfl rfl (op_move rfl rfl ?_)
      refine AOps.st 13 rfl rfl rfl (op_move rfl rfl ?_)
      refine AOps.st 14 rfl rfl rfl (op_callk (xs := [.tmp 12, .tmp 13]) [0,0,0] rfl rfl rfl (hN) (by first | exact Les.refl _ | (repeat' (first | exact Les.refl _ | refine Les.cons ?_ ?_ | exact Le.refl _ | exact Le.own _ _ _ | exact Le.nil _ | refine Le.agg ?_))) ?_)
      refine AOps.st 11 rfl rfl rfl (op_move rfl rfl ?_)
      refine AOps.st 15 rfl rfl rfl (op_extract rfl rfl rfl ?_)
      refine AOps.st 16 rfl rfl rfl (op_extract rfl rfl rfl ?_)
      refine AOps.st 17 rfl rfl rfl (op_extract rfl rfl rfl ?_)
      refine AOps.st 6 rfl rfl rfl (op_assign rfl rfl ?_)
      refine AOps.st 7 rfl rfl rfl (op_assign rfl rfl ?_)
      refine AOps.st 8 rfl rfl rfl (op_assign rfl rfl ?_)
      refine AOps.nil ?_
      refine go_code ?_
      refine c_seq ?_
      refine c_seq ?_
      refine c_region ?_
      refine AOps.st 18 rfl rfl rfl (op_move rfl rfl ?_)
      refine AOps.st 19 rfl rfl rfl (op_notc rfl rfl ?_); intro c19 h19
      try replace h19 := nott h19 h17
      refine AOps.nil ?_
      refine go_code ?_
      rcases bool_split h19 with ⟨rfl, g19⟩ | ⟨rfl, g19⟩
      · refine c_cond_f rfl ?_
        refine c_skip ?_
        refine go_code ?_
        refine c_seq ?_
        exact absurd g19 (by simp)
      · refine c_cond_t rfl ?_
        refine c_seq ?_
        refine c_region ?_
        refine AOps.st 4 rfl rfl rfl (op_assign rfl rfl ?_)
        refine AOps.st 5 rfl rfl rfl (op_assign rfl rfl ?_)
        refine AOps.nil ?_
        refine go_code ?_
        refine c_ret ?_
        exact out_tt rfl rfl rfl (Le.refl _) (by first | exact MLe.none _ | exact MLe.refl _ | (repeat' (first | exact MLe.nil | exact MLe.refl _ | refine MLe.cons _ ?_ | refine MLe.drop _ ?_))) ⟨rfl, rfl⟩
end Go.Proofs.Ytecpnlhjjmcllaa
