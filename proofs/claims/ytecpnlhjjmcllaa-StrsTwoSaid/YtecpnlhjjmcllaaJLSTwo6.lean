/- Parts of a proof: strs: words, Get, Len, two, Cat.; The logic of trees, part 18: calls of what Go gives without a body; texts, greater.; strs: Len, two, Cat, Order; strings.Compare.; cognateref32.Get.; The order of texts, byte by byte: the other way round, on, behind another; heaps of texts alone.; cognatelaw32: awake.; strs on heaps of texts alone: Order, Cat, Get, Len; which texts are few. -/
import Derived.Test.YtecpnlhjjmcllaaJLSTwo5
import Derived.Lib.Bytealg
import Derived.Laws.BytesArg
namespace Go.Proofs.Ytecpnlhjjmcllaa
open Go.RowKit
set_option maxHeartbeats 4000000 in
set_option maxRecDepth 100000 in
theorem words_some (b : Nat) (sz : Int) (H : List HO) (M : Mem) (hM : HeapAt b sz H M) (h : 0 < sz) (hH : ∀ o ∈ H, o.ok) (hu : used H ≤ 16777216) (w : Int) (h0 : 0 ≤ w) (h1 : w ≤ 18446744073709551615) (o : HO) (ho : objOf H w = some o) (hw : wordsOk o) :
    KCall Try.prog 51 [.ptr b 0, .val (.int .u64 w)] M (.tup [.seq 1 (o.parts.tail.map iv), .val (.int .i64 (toI (o.parts.headD 0))), .val (.bool true)]) := by
  have hL := Look_c b sz H M hM h hH hu w h0 h1
  have hP := fun i => Part_c b sz H M hM h hH hu w h0 h1 i
  have hmem : o ∈ H := (obj_at ho).choose_spec.2.2.2.2.2.2
  obtain ⟨k1, k2, k3⟩ := hH o hmem
  have hpl : o.parts.length ≤ 16777216 := by unfold headOk at k1; simp only [Bool.and_eq_true, decide_eq_true_eq] at k1; omega
  have hPk : ∀ (i : Nat) (x : Int), o.parts[i]? = some x → KCall Try.prog 23 [.ptr b 0, .val (.int .u64 w), .val (.int .i64 i)] M (.tup [.val (.int .u64 x), .val (.bool true)]) := fun i x hx => by
    have := hP i
    unfold partR partV at this
    rw [ho] at this
    simp only [Int.toNat_natCast, hx] at this
    rw [if_pos (by omega)] at this
    exact this
  unfold lookV at hL
  rw [ho] at hL
  simp only at hL
  clear hP
  obtain ⟨kd, tg, ps⟩ := o
  obtain ⟨w1, w2, w3, w4, w5, w6⟩ := hw
  simp only at *
  subst w1 w2
  cases ps with
  | nil => simp at k2
  | cons p l =>
    simp only [List.headD_cons, List.tail_cons, List.length_cons] at *
    have hp := k3 p (by simp)
    have hT := ToInt_p p hp.1 hp.2
    rw [w3] at hT
    obtain ⟨n, hn⟩ : ∃ n : Nat, toI p = n := ⟨(toI p).toNat, by omega⟩
    rw [hn] at hT w5 w6 ⊢
    have hN := Need_c n (by omega) (by omega)
    rw [w6] at hN
    have hP0 := hPk 0 p (by simp)
    have hPj : ∀ (j : Nat) (x : Int), l[j]? = some x → KCall Try.prog 23 [.ptr b 0, .val (.int .u64 w), .val (.int .i64 ((j : Int) + 1))] M (.tup [.val (.int .u64 x), .val (.bool true)]) := fun j x hx => by
      have := hPk (j + 1) x (by simpa using hx)
      rwa [Int.natCast_add] at this
    obtain ⟨r0, r1, r2, rfl⟩ := hM.three
    have hll : (l.map iv).length = l.length := by simp
    refine ACall.enter Try.func51 rfl (by kernel_rfl) rfl (Nat.le_of_ble_eq_true rfl) ?_
    refine c_start ?_
    refine c_seq ?_
    refine c_region ?_
    refine AOps.st 4 rfl rfl rfl (op_assign rfl rfl ?_)
    refine AOps.st 5 rfl rfl rfl (op_assign rfl rfl ?_)
    refine AOps.st 6 rfl rfl rfl (op_assign rfl rfl ?_)
    refine AOps.nil ?_
    refine go_code ?_
    refine c_seq ?_
    refine c_region ?_
    refine AOps.st 17 rfl rfl rfl (op_move rfl rfl ?_)
    refine AOps.st 18 rfl rfl rfl (op_move rfl rfl ?_)
    refine AOps.st 19 rfl rfl rfl (op_callk (xs := [.tmp 17, .tmp 18]) [0,0,0] rfl rfl rfl (hL) (by first | exact Les.refl _ | (repeat' (first | exact Les.refl _ | refine Les.cons ?_ ?_ | exact Le.refl _ | exact Le.own _ _ _ | exact Le.nil _ | refine Le.agg ?_))) ?_)
    refine AOps.st 16 rfl rfl rfl (op_move rfl rfl ?_)
    refine AOps.st 20 rfl rfl rfl (op_extract rfl rfl rfl ?_)
    refine AOps.st 21 rfl rfl rfl (op_extract rfl rfl rfl ?_)
    refine AOps.st 22 rfl rfl rfl (op_extract rfl rfl rfl ?_)
    refine AOps.st 23 rfl rfl rfl (op_extract rfl rfl rfl ?_)
    refine AOps.st 7 rfl rfl rfl (op_assign rfl rfl ?_)
    refine AOps.st 8 rfl rfl rfl (op_assign rfl rfl ?_)
    refine AOps.st 9 rfl rfl rfl (op_assign rfl rfl ?_)
    refine AOps.st 10 rfl rfl rfl (op_assign rfl rfl ?_)
    refine AOps.nil ?_
    refine go_code ?_
    refine c_seq ?_
    refine c_seq ?_
    refine c_bool 33 (False) ?_ _ _ rfl ?_
    · skip
      refine AOps.st 24 rfl rfl rfl (op_move rfl rfl ?_)
      refine AOps.st 25 rfl rfl rfl (op_notc rfl rfl ?_); intro c25 h25
      try replace h25 := nott h25 h23
      refine AOps.st 26 rfl rfl rfl (op_move rfl rfl ?_)
      rcases bool_split h25 with ⟨rfl, g25⟩ | ⟨rfl, g25⟩
      · skip
        refine AOps.gt 27 rfl rfl rfl rfl rfl (op_move rfl rfl ?_)
        refine AOps.gt 28 rfl rfl rfl rfl rfl (op_neq rfl rfl rfl ?_); intro c28 h28
        refine AOps.st 29 rfl rfl rfl (op_pick rfl rfl rfl ?_)
        refine AOps.st 30 rfl rfl rfl (op_move rfl rfl ?_)
        rcases bool_split h28 with ⟨rfl, g28⟩ | ⟨rfl, g28⟩
        · skip
          refine AOps.gt 31 rfl rfl rfl rfl rfl (op_move rfl rfl ?_)
          refine AOps.gt 32 rfl rfl rfl rfl rfl (op_neq rfl rfl rfl ?_); intro c32 h32
          refine AOps.st 33 rfl rfl rfl (op_pick rfl rfl rfl ?_)
          refine AOps.nil ?_
          refine BoolQ.mk rfl ?_ (by repeat' (first | exact SLe.wo _ _ | exact SLe.refl _ | refine SLe.fresh rfl ?_)) (by first | exact MLe.none _ | exact MLe.refl _ | (repeat' (first | exact MLe.nil | exact MLe.refl _ | refine MLe.cons _ ?_ | refine MLe.drop _ ?_)))
          first | (simp_all; done) | (simp_all; omega)
        · skip
          refine AOps.gf 31 rfl rfl rfl rfl rfl ?_
          refine AOps.gf 32 rfl rfl rfl rfl rfl ?_
          refine AOps.st 33 rfl rfl rfl (op_pick rfl rfl rfl ?_)
          refine AOps.nil ?_
          refine BoolQ.mk rfl ?_ (by repeat' (first | exact SLe.wo _ _ | exact SLe.refl _ | refine SLe.fresh rfl ?_)) (by first | exact MLe.none _ | exact MLe.refl _ | (repeat' (first | exact MLe.nil | exact MLe.refl _ | refine MLe.cons _ ?_ | refine MLe.drop _ ?_)))
          first | (simp_all; done) | (simp_all; omega)
      · skip
        refine AOps.gf 27 rfl rfl rfl rfl rfl ?_
        refine AOps.gf 28 rfl rfl rfl rfl rfl ?_
        refine AOps.st 29 rfl rfl rfl (op_pick rfl rfl rfl ?_)
        refine AOps.st 30 rfl rfl rfl (op_move rfl rfl ?_)
        refine AOps.gf 31 rfl rfl rfl rfl rfl ?_
        refine AOps.gf 32 rfl rfl rfl rfl rfl ?_
        refine AOps.st 33 rfl rfl rfl (op_pick rfl rfl rfl ?_)
        refine AOps.nil ?_
        refine BoolQ.mk rfl ?_ (by repeat' (first | exact SLe.wo _ _ | exact SLe.refl _ | refine SLe.fresh rfl ?_)) (by first | exact MLe.none _ | exact MLe.refl _ | (repeat' (first | exact MLe.nil | exact MLe.refl _ | refine MLe.cons _ ?_ | refine MLe.drop _ ?_)))
        first | (simp_all; done) | (simp_all; omega)
    intro c33 h33
    refine go_code ?_
    rcases bool_split h33 with ⟨rfl, g33⟩ | ⟨rfl, g33⟩
    · refine c_cond_f rfl ?_
      refine c_skip ?_
      refine go_code ?_
      refine c_seq ?_
      refine c_region ?_
      refine AOps.st 35 rfl rfl rfl (op_move rfl rfl ?_)
      refine AOps.st 36 rfl rfl rfl (op_move rfl rfl ?_)
      refine AOps.st 37 rfl rfl rfl (op_callk (xs := [.tmp 35, .tmp 36, .const (.int .i64 0)]) [0,0,0] rfl rfl rfl (hP0) (by first | exact Les.refl _ | (repeat' (first | exact Les.refl _ | refine Les.cons ?_ ?_ | exact Le.refl _ | exact Le.own _ _ _ | exact Le.nil _ | refine Le.agg ?_))) ?_)
      refine AOps.st 34 rfl rfl rfl (op_move rfl rfl ?_)
      refine AOps.st 38 rfl rfl rfl (op_extract rfl rfl rfl ?_)
      refine AOps.st 39 rfl rfl rfl (op_extract rfl rfl rfl ?_)
      refine AOps.st 11 rfl rfl rfl (op_assign rfl rfl ?_)
      refine AOps.st 12 rfl rfl rfl (op_assign rfl rfl ?_)
      refine AOps.nil ?_
      refine go_code ?_
      refine c_seq ?_
      refine c_region ?_
      refine AOps.st 41 rfl rfl rfl (op_move rfl rfl ?_)
      refine AOps.st 42 rfl rfl rfl (op_callp (xs := [.tmp 41]) rfl rfl (hT) (by first | exact Les.refl _ | (repeat' (first | exact Les.refl _ | refine Les.cons ?_ ?_ | exact Le.refl _ | exact Le.own _ _ _ | exact Le.nil _ | refine Le.agg ?_))) ?_)
      refine AOps.st 40 rfl rfl rfl (op_move rfl rfl ?_)
      refine AOps.st 43 rfl rfl rfl (op_extract rfl rfl rfl ?_)
      refine AOps.st 44 rfl rfl rfl (op_extract rfl rfl rfl ?_)
      refine AOps.st 13 rfl rfl rfl (op_assign rfl rfl ?_)
      refine AOps.st 10 rfl rfl rfl (op_assign rfl rfl ?_)
      refine AOps.nil ?_
      refine go_code ?_
      refine c_seq ?_
      refine c_seq ?_
      refine c_bool 64 (False) ?_ _ _ rfl ?_
      · skip
        refine AOps.st 45 rfl rfl rfl (op_move rfl rfl ?_)
        refine AOps.st 46 rfl rfl rfl (op_notc rfl rfl ?_); intro c46 h46
        try replace h46 := nott h46 h44
        refine AOps.st 47 rfl rfl rfl (op_move rfl rfl ?_)
        rcases bool_split h46 with ⟨rfl, g46⟩ | ⟨rfl, g46⟩
        · skip
          refine AOps.gt 48 rfl rfl rfl rfl rfl (op_move rfl rfl ?_)
          refine AOps.gt 49 rfl rfl rfl rfl rfl (op_lss rfl rfl rfl ?_); intro c49 h49
          refine AOps.st 50 rfl rfl rfl (op_pick rfl rfl rfl ?_)
          refine AOps.st 51 rfl rfl rfl (op_move rfl rfl ?_)
          rcases bool_split h49 with ⟨rfl, g49⟩ | ⟨rfl, g49⟩
          · skip
            refine AOps.gt 52 rfl rfl rfl rfl rfl (op_move rfl rfl ?_)
            refine AOps.gt 53 rfl rfl rfl rfl rfl (op_move rfl rfl ?_)
            first | (refine AOps.gt 54 rfl rfl rfl rfl rfl (op_sub rfl rfl rfl (IntWalk.i64_in _ (by omega)) ?_)) | (refine AOps.gt 54 rfl rfl rfl rfl rfl (op_sub rfl rfl rfl rfl ?_))
            first | (refine AOps.gt 55 rfl rfl rfl rfl rfl (op_mul rfl rfl rfl (IntWalk.i64_in _ (by omega)) ?_)) | (refine AOps.gt 55 rfl rfl rfl rfl rfl (op_mul rfl rfl rfl rfl ?_))
            refine AOps.gt 56 rfl rfl rfl rfl rfl (op_gtr rfl rfl rfl ?_); intro c56 h56
            refine AOps.st 57 rfl rfl rfl (op_pick rfl rfl rfl ?_)
            refine AOps.st 58 rfl rfl rfl (op_move rfl rfl ?_)
            rcases bool_split h56 with ⟨rfl, g56⟩ | ⟨rfl, g56⟩
            · skip
              refine AOps.gt 59 rfl rfl rfl rfl rfl (op_move rfl rfl ?_)
              refine AOps.gt 60 rfl rfl rfl rfl rfl (op_callp (xs := [.tmp 59]) rfl rfl (hN) (by first | exact Les.refl _ | (repeat' (first | exact Les.refl _ | refine Les.cons ?_ ?_ | exact Le.refl _ | exact Le.own _ _ _ | exact Le.nil _ | refine Le.agg ?_))) ?_)
              refine AOps.gt 61 rfl rfl rfl rfl rfl (op_move rfl rfl ?_)
              first | (refine AOps.gt 62 rfl rfl rfl rfl rfl (op_add rfl rfl rfl (IntWalk.i64_in _ (by omega)) ?_)) | (refine AOps.gt 62 rfl rfl rfl rfl rfl (op_add rfl rfl rfl rfl ?_))
              refine AOps.gt 63 rfl rfl rfl rfl rfl (op_neq rfl rfl rfl ?_); intro c63 h63
              refine AOps.st 64 rfl rfl rfl (op_pick rfl rfl rfl ?_)
              refine AOps.nil ?_
              refine BoolQ.mk rfl ?_ (by repeat' (first | exact SLe.wo _ _ | exact SLe.refl _ | refine SLe.fresh rfl ?_)) (by first | exact MLe.none _ | exact MLe.refl _ | (repeat' (first | exact MLe.nil | exact MLe.refl _ | refine MLe.cons _ ?_ | refine MLe.drop _ ?_)))
              first | (simp_all; done) | (simp_all; omega) | grind
            · skip
              refine AOps.gf 59 rfl rfl rfl rfl rfl ?_
              refine AOps.gf 60 rfl rfl rfl rfl rfl ?_
              refine AOps.gf 61 rfl rfl rfl rfl rfl ?_
              refine AOps.gf 62 rfl rfl rfl rfl rfl ?_
              refine AOps.gf 63 rfl rfl rfl rfl rfl ?_
              refine AOps.st 64 rfl rfl rfl (op_pick rfl rfl rfl ?_)
              refine AOps.nil ?_
              refine BoolQ.mk rfl ?_ (by repeat' (first | exact SLe.wo _ _ | exact SLe.refl _ | refine SLe.fresh rfl ?_)) (by first | exact MLe.none _ | exact MLe.refl _ | (repeat' (first | exact MLe.nil | exact MLe.refl _ | refine MLe.cons _ ?_ | refine MLe.drop _ ?_)))
              first | (simp_all; done) | (simp_all; omega) | grind
          · skip
            refine AOps.gf 52 rfl rfl rfl rfl rfl ?_
            refine AOps.gf 53 rfl rfl rfl rfl rfl ?_
            refine AOps.gf 54 rfl rfl rfl rfl rfl ?_
            refine AOps.gf 55 rfl rfl rfl rfl rfl ?_
            refine AOps.gf 56 rfl rfl rfl rfl rfl ?_
            refine AOps.st 57 rfl rfl rfl (op_pick rfl rfl rfl ?_)
            refine AOps.st 58 rfl rfl rfl (op_move rfl rfl ?_)
            refine AOps.gf 59 rfl rfl rfl rfl rfl ?_
            refine AOps.gf 60 rfl rfl rfl rfl rfl ?_
            refine AOps.gf 61 rfl rfl rfl rfl rfl ?_
            refine AOps.gf 62 rfl rfl rfl rfl rfl ?_
            refine AOps.gf 63 rfl rfl rfl rfl rfl ?_
            refine AOps.st 64 rfl rfl rfl (op_pick rfl rfl rfl ?_)
            refine AOps.nil ?_
            refine BoolQ.mk rfl ?_ (by repeat' (first | exact SLe.wo _ _ | exact SLe.refl _ | refine SLe.fresh rfl ?_)) (by first | exact MLe.none _ | exact MLe.refl _ | (repeat' (first | exact MLe.nil | exact MLe.refl _ | refine MLe.cons _ ?_ | refine MLe.drop _ ?_)))
            first | (simp_all; done) | (simp_all; omega) | grind
        · skip
          refine AOps.gf 48 rfl rfl rfl rfl rfl ?_
          refine AOps.gf 49 rfl rfl rfl rfl rfl ?_
          refine AOps.st 50 rfl rfl rfl (op_pick rfl rfl rfl ?_)
          refine AOps.st 51 rfl rfl rfl (op_move rfl rfl ?_)
          refine AOps.gf 52 rfl rfl rfl rfl rfl ?_
          refine AOps.gf 53 rfl rfl rfl rfl rfl ?_
          refine AOps.gf 54 rfl rfl rfl rfl rfl ?_
          refine AOps.gf 55 rfl rfl rfl rfl rfl ?_
          refine AOps.gf 56 rfl rfl rfl rfl rfl ?_
          refine AOps.st 57 rfl rfl rfl (op_pick rfl rfl rfl ?_)
          refine AOps.st 58 rfl rfl rfl (op_move rfl rfl ?_)
          refine AOps.gf 59 rfl rfl rfl rfl rfl ?_
          refine AOps.gf 60 rfl rfl rfl rfl rfl ?_
          refine AOps.gf 61 rfl rfl rfl rfl rfl ?_
          refine AOps.gf 62 rfl rfl rfl rfl rfl ?_
          refine AOps.gf 63 rfl rfl rfl rfl rfl ?_
          refine AOps.st 64 rfl rfl rfl (op_pick rfl rfl rfl ?_)
          refine AOps.nil ?_
          refine BoolQ.mk rfl ?_ (by repeat' (first | exact SLe.wo _ _ | exact SLe.refl _ | refine SLe.fresh rfl ?_)) (by first | exact MLe.none _ | exact MLe.refl _ | (repeat' (first | exact MLe.nil | exact MLe.refl _ | refine MLe.cons _ ?_ | refine MLe.drop _ ?_)))
          first | (simp_all; done) | (simp_all; omega) | grind
      intro c64 h64
      refine go_code ?_
      rcases bool_split h64 with ⟨rfl, g64⟩ | ⟨rfl, g64⟩
      · refine c_cond_f rfl ?_
        refine c_skip ?_
        refine go_code ?_
        refine c_seq ?_
        refine c_region ?_
        refine AOps.st 65 rfl rfl rfl (op_move rfl rfl ?_)
        first | (refine AOps.st 66 rfl rfl rfl (op_sub rfl rfl rfl (IntWalk.i64_in _ (by omega)) ?_)) | (refine AOps.st 66 rfl rfl rfl (op_sub rfl rfl rfl rfl ?_))
        refine AOps.st 67 rfl rfl rfl (op_makeSlice (n := l.length) el_34 rfl rfl (by omega) (by omega) rfl ?_); intro b67
        refine AOps.st 14 rfl rfl rfl (op_assign rfl rfl ?_)
        refine AOps.nil ?_
        refine go_code ?_
        refine c_seq ?_
        refine c_seq ?_
        refine c_region ?_
        refine AOps.st 68 rfl rfl rfl (op_move rfl rfl ?_)
        first | (refine AOps.st 69 rfl rfl rfl (op_sub rfl rfl rfl (IntWalk.i64_in _ (by omega)) ?_)) | (refine AOps.st 69 rfl rfl rfl (op_sub rfl rfl rfl rfl ?_))
        refine AOps.st 70 rfl rfl rfl (op_move rfl rfl ?_)
        refine AOps.nil ?_
        refine go_code ?_
        refine c_block ?_
        apply c_loopk [2, 3, 7, 8, 9, 10, 11, 12, 15, 16, 17, 18, 19, 20, 21, 22, 23, 24, 25, 26, 27, 28, 29, 30, 31, 32, 33, 34, 35, 36, 37, 38, 39, 40, 41, 42, 43, 44, 45, 46, 47, 48, 49, 50, 51, 52, 53, 54, 55, 56, 57, 58, 59, 60, 61, 62, 63, 64, 65, 66, 67, 68, 70, 71, 72, 73, 74, 75, 76, 77, 78, 79, 80, 81, 82, 83, 84] (σ := Nat) (fun zz => match zz with | j => [(70, .val (.int .i64 j))]) (fun zz => match zz with | j => [.loc b67 ((l.map iv).take j ++ List.replicate (l.length - j) (iv 0)).flatten, r0, r1, r2]) (fun zz => match zz with | j => j ≤ l.length) (fun zz => match zz with | j => l.length - j) (0)
        · repeat' (first | exact Drops.nil | apply Drops.keep rfl | apply Drops.skip rfl)
        · exact Nat.zero_le _
        · exact (by repeat' (first | exact SLe.nil _ | refine SLe.cons rfl ?_ ?_ | exact Le.refl _ | exact Le.own _ _ _ | exact Le.nil _))
        · exact (MLe.of_eq (by simp [iv, AV.cells]))
        rintro j hI
        try dsimp only [List.cons_append, List.nil_append] at hI ⊢
        refine c_seq ?_
        refine c_region ?_
        refine AOps.st 71 rfl rfl rfl (op_lss rfl rfl rfl ?_); intro c71 h71
        refine AOps.nil ?_
        refine go_code ?_
        refine c_seq ?_
        rcases bool_split h71 with ⟨rfl, g71⟩ | ⟨rfl, g71⟩
        · refine c_cond_f rfl ?_
          refine c_exit ?_
          refine x_code ?_
          refine x_lp ?_
          refine x_here ?_
          refine go_code ?_
          refine c_seq ?_
          obtain rfl : j = l.length := by omega
          have ht : (l.map iv).take l.length = l.map iv := by rw [← hll]; exact List.take_length
          simp only [ht, Nat.sub_self, List.replicate_zero, List.append_nil]
          refine c_freeze (i := 0) (al' := [(14, .seq 1 (l.map iv)), (13, .val (.int .i64 n))]) rfl rfl (fun e he => by obtain ⟨x, _, rfl⟩ := List.mem_map.1 he; rfl) hll (by omega) (Frz.arr rfl (Frz.cons rfl (Le.refl _) Frz.nil)) ?_
          refine c_region ?_
          refine AOps.st 85 rfl rfl rfl (op_move rfl rfl ?_)
          refine AOps.st 86 rfl rfl rfl (op_move rfl rfl ?_)
          refine AOps.st 4 rfl rfl rfl (op_assign rfl rfl ?_)
          refine AOps.st 5 rfl rfl rfl (op_assign rfl rfl ?_)
          refine AOps.st 6 rfl rfl rfl (op_assign rfl rfl ?_)
          refine AOps.nil ?_
          refine go_code ?_
          refine c_ret ?_
          exact out_ttt rfl rfl rfl rfl (Le.refl _) (by first | exact MLe.none _ | exact MLe.refl _ | (repeat' (first | exact MLe.nil | exact MLe.refl _ | refine MLe.cons _ ?_ | refine MLe.drop _ ?_))) ⟨rfl, rfl⟩
        · refine c_cond_t rfl ?_
          refine c_skip ?_
          refine go_code ?_
          refine c_seq ?_
          refine c_block ?_
          refine c_seq ?_
          obtain ⟨x, hx⟩ := getk (l := l) (i := j) (by omega)
          have hPx := hPj j x hx
          have hxv : (l.map iv)[j]? = some (iv x) := by rw [List.getElem?_map, hx]; rfl
          have hstep := fill_step (z := iv 0) hll hxv
          have hwid : ∀ e ∈ (l.map iv).take j ++ List.replicate (l.length - j) (iv 0), e.length = 1 := fun e he => by
            rcases List.mem_append.1 he with he | he
            · obtain ⟨x, _, rfl⟩ := List.mem_map.1 (List.mem_of_mem_take he); rfl
            · rw [(List.mem_replicate.1 he).2]; rfl
          refine c_region ?_
          refine AOps.st 72 rfl rfl rfl (op_move rfl rfl ?_)
          refine AOps.st 15 rfl rfl rfl (op_assign rfl rfl ?_)
          refine AOps.nil ?_
          refine go_code ?_
          refine c_region ?_
          refine AOps.st 74 rfl rfl rfl (op_move rfl rfl ?_)
          refine AOps.st 75 rfl rfl rfl (op_move rfl rfl ?_)
          refine AOps.st 76 rfl rfl rfl (op_move rfl rfl ?_)
          refine AOps.st 77 rfl rfl rfl (op_move rfl rfl ?_)
          refine AOps.st 78 rfl rfl rfl (op_move rfl rfl ?_)
          first | (refine AOps.st 79 rfl rfl rfl (op_add rfl rfl rfl (IntWalk.i64_in _ (by omega)) ?_)) | (refine AOps.st 79 rfl rfl rfl (op_add rfl rfl rfl rfl ?_))
          refine AOps.st 80 rfl rfl rfl (op_callk (xs := [.tmp 76, .tmp 77, .tmp 79]) [1,1,1] rfl rfl rfl (hPx) (by first | exact Les.refl _ | (repeat' (first | exact Les.refl _ | refine Les.cons ?_ ?_ | exact Le.refl _ | exact Le.own _ _ _ | exact Le.nil _ | refine Le.agg ?_))) ?_)
          refine AOps.st 73 rfl rfl rfl (op_move rfl rfl ?_)
          refine AOps.st 81 rfl rfl rfl (op_extract rfl rfl rfl ?_)
          refine AOps.st 82 rfl rfl rfl (op_extract rfl rfl rfl ?_)
          first | (refine AOps.st 83 rfl rfl rfl (op_index rfl te_34 rfl (.seq _ _) rfl rfl (by assumption) ?_)) | (refine AOps.st 83 rfl rfl rfl (op_index (i := 0) rfl te_34 rfl (.seq _ _) rfl rfl (by first | rfl | assumption) ?_)) | (refine AOps.st 83 rfl rfl rfl (op_index (i := 1) rfl te_34 rfl (.seq _ _) rfl rfl (by first | rfl | assumption) ?_)) | (refine AOps.st 83 rfl rfl rfl (op_index rfl te_34 rfl (.own _ _ _) rfl rfl (by assumption) ?_)) | (refine AOps.st 83 rfl rfl rfl (op_index (i := 0) rfl te_34 rfl (.own _ _ _) rfl rfl (by first | rfl | assumption) ?_)) | (refine AOps.st 83 rfl rfl rfl (op_index (i := 1) rfl te_34 rfl (.own _ _ _) rfl rfl (by first | rfl | assumption) ?_)) | (refine AOps.st 83 rfl rfl rfl (op_index_arr rfl te_34 rfl rfl rfl (by omega) ?_))
          refine AOps.st0 rfl rfl (op_store_row (k := 0) rfl ts_42 rfl rfl rfl rfl rfl (hwid) ((by simp; omega)) ?_)
          refine AOps.nil ?_
          refine go_blk ?_
          refine go_code ?_
          refine c_region ?_
          first | (refine AOps.st 84 rfl rfl rfl (op_add rfl rfl rfl (IntWalk.i64_in _ (by omega)) ?_)) | (refine AOps.st 84 rfl rfl rfl (op_add rfl rfl rfl rfl ?_))
          refine AOps.st 70 rfl rfl rfl (op_move rfl rfl ?_)
          refine AOps.nil ?_
          refine go_lp ?_
          refine ⟨j + 1, by have := get_lt hx; omega, by have := get_lt hx; show l.length - (j + 1) < l.length - j; omega, (by repeat' (first | exact SLe.nil _ | refine SLe.cons rfl ?_ ?_ | exact Le.refl _ | exact Le.own _ _ _ | exact Le.nil _)), ?_⟩
          refine MLe.of_eq ?_
          dsimp only
          rw [← hstep]
          rfl
      · refine c_cond_t rfl ?_
        refine c_seq ?_
        exact g64.elim
    · refine c_cond_t rfl ?_
      refine c_seq ?_
      exact g33.elim
set_option maxHeartbeats 4000000 in
set_option maxRecDepth 100000 in
theorem words_none (b : Nat) (sz : Int) (H : List HO) (M : Mem) (hM : HeapAt b sz H M) (h : 0 < sz) (hH : ∀ o ∈ H, o.ok) (hu : used H ≤ 16777216) (w : Int) (h0 : 0 ≤ w) (h1 : w ≤ 18446744073709551615) (hw : ∀ o, objOf H w = some o → ¬ wordsOk o) :
    KCall Try.prog 51 [.ptr b 0, .val (.int .u64 w)] M (.tup [.val (.slice none 0 0), .val (.int .i64 0), .val (.bool false)]) := by
  have hL := Look_c b sz H M hM h hH hu w h0 h1
  have hP := Part_c b sz H M hM h hH hu w h0 h1 0
  obtain ⟨r0, r1, r2, rfl⟩ := hM.three
  unfold lookV at hL
  cases ho : objOf H w with
  | none =>
    rw [ho] at hL
    simp only at hL
    refine ACall.enter Try.func51 rfl (by kernel_rfl) rfl (Nat.le_of_ble_eq_true rfl) ?_
    refine c_start ?_
    refine c_seq ?_
    refine c_region ?_
    refine AOps.st 4 rfl rfl rfl (op_assign rfl rfl ?_)
    refine AOps.st 5 rfl rfl rfl (op_assign rfl rfl ?_)
    refine AOps.st 6 rfl rfl rfl (op_assign rfl rfl ?_)
    refine AOps.nil ?_
    refine go_code ?_
    refine c_seq ?_
    refine c_region ?_
    refine AOps.st 17 rfl rfl rfl (op_move rfl rfl ?_)
    refine AOps.st 18 rfl rfl rfl (op_move rfl rfl ?_)
    refine AOps.st 19 rfl rfl rfl (op_callk (xs := [.tmp 17, .tmp 18]) [0,0,0] rfl rfl rfl (hL) (by first | exact Les.refl _ | (repeat' (first | exact Les.refl _ | refine Les.cons ?_ ?_ | exact Le.refl _ | exact Le.own _ _ _ | exact Le.nil _ | refine Le.agg ?_))) ?_)
    refine AOps.st 16 rfl rfl rfl (op_move rfl rfl ?_)
    refine AOps.st 20 rfl rfl rfl (op_extract rfl rfl rfl ?_)
    refine AOps.st 21 rfl rfl rfl (op_extract rfl rfl rfl ?_)
    refine AOps.st 22 rfl rfl rfl (op_extract rfl rfl rfl ?_)
    refine AOps.st 23 rfl rfl rfl (op_extract rfl rfl rfl ?_)
    refine AOps.st 7 rfl rfl rfl (op_assign rfl rfl ?_)
    refine AOps.st 8 rfl rfl rfl (op_assign rfl rfl ?_)
    refine AOps.st 9 rfl rfl rfl (op_assign rfl rfl ?_)
    refine AOps.st 10 rfl rfl rfl (op_assign rfl rfl ?_)
    refine AOps.nil ?_
    refine go_code ?_
    refine c_seq ?_
    refine c_seq ?_
    refine c_bool 33 (True) ?_ _ _ rfl ?_
    · skip
      refine AOps.st 24 rfl rfl rfl (op_move rfl rfl ?_)
      refine AOps.st 25 rfl rfl rfl (op_notc rfl rfl ?_); intro c25 h25
      try replace h25 := nott h25 h23
      refine AOps.st 26 rfl rfl rfl (op_move rfl rfl ?_)
      rcases bool_split h25 with ⟨rfl, g25⟩ | ⟨rfl, g25⟩
      · skip
        refine AOps.gt 27 rfl rfl rfl rfl rfl (op_move rfl rfl ?_)
        refine AOps.gt 28 rfl rfl rfl rfl rfl (op_neq rfl rfl rfl ?_); intro c28 h28
        refine AOps.st 29 rfl rfl rfl (op_pick rfl rfl rfl ?_)
        refine AOps.st 30 rfl rfl rfl (op_move rfl rfl ?_)
        rcases bool_split h28 with ⟨rfl, g28⟩ | ⟨rfl, g28⟩
        · skip
          refine AOps.gt 31 rfl rfl rfl rfl rfl (op_move rfl rfl ?_)
          refine AOps.gt 32 rfl rfl rfl rfl rfl (op_neq rfl rfl rfl ?_); intro c32 h32
          refine AOps.st 33 rfl rfl rfl (op_pick rfl rfl rfl ?_)
          refine AOps.nil ?_
          refine BoolQ.mk rfl ?_ (by repeat' (first | exact SLe.wo _ _ | exact SLe.refl _ | refine SLe.fresh rfl ?_)) (by first | exact MLe.none _ | exact MLe.refl _ | (repeat' (first | exact MLe.nil | exact MLe.refl _ | refine MLe.cons _ ?_ | refine MLe.drop _ ?_)))
          first | (simp_all; done) | (simp_all; omega)
        · skip
          refine AOps.gf 31 rfl rfl rfl rfl rfl ?_
          refine AOps.gf 32 rfl rfl rfl rfl rfl ?_
          refine AOps.st 33 rfl rfl rfl (op_pick rfl rfl rfl ?_)
          refine AOps.nil ?_
          refine BoolQ.mk rfl ?_ (by repeat' (first | exact SLe.wo _ _ | exact SLe.refl _ | refine SLe.fresh rfl ?_)) (by first | exact MLe.none _ | exact MLe.refl _ | (repeat' (first | exact MLe.nil | exact MLe.refl _ | refine MLe.cons _ ?_ | refine MLe.drop _ ?_)))
          first | (simp_all; done) | (simp_all; omega)
      · skip
        refine AOps.gf 27 rfl rfl rfl rfl rfl ?_
        refine AOps.gf 28 rfl rfl rfl rfl rfl ?_
        refine AOps.st 29 rfl rfl rfl (op_pick rfl rfl rfl ?_)
        refine AOps.st 30 rfl rfl rfl (op_move rfl rfl ?_)
        refine AOps.gf 31 rfl rfl rfl rfl rfl ?_
        refine AOps.gf 32 rfl rfl rfl rfl rfl ?_
        refine AOps.st 33 rfl rfl rfl (op_pick rfl rfl rfl ?_)
        refine AOps.nil ?_
        refine BoolQ.mk rfl ?_ (by repeat' (first | exact SLe.wo _ _ | exact SLe.refl _ | refine SLe.fresh rfl ?_)) (by first | exact MLe.none _ | exact MLe.refl _ | (repeat' (first | exact MLe.nil | exact MLe.refl _ | refine MLe.cons _ ?_ | refine MLe.drop _ ?_)))
        first | (simp_all; done) | (simp_all; omega)
    intro c33 h33
    refine go_code ?_
    rcases bool_split h33 with ⟨rfl, g33⟩ | ⟨rfl, g33⟩
    · refine c_cond_f rfl ?_
      refine c_skip ?_
      refine go_code ?_
      refine c_seq ?_
      exact absurd trivial g33
    · refine c_cond_t rfl ?_
      refine c_seq ?_
      refine c_region ?_
      refine AOps.st 4 rfl rfl rfl (op_assign rfl rfl ?_)
      refine AOps.st 5 rfl rfl rfl (op_assign rfl rfl ?_)
      refine AOps.st 6 rfl rfl rfl (op_assign rfl rfl ?_)
      refine AOps.nil ?_
      refine go_code ?_
      refine c_ret ?_
      exact out_ttt rfl rfl rfl rfl (Le.refl _) (by first | exact MLe.none _ | exact MLe.refl _ | (repeat' (first | exact MLe.nil | exact MLe.refl _ | refine MLe.cons _ ?_ | refine MLe.drop _ ?_))) ⟨rfl, rfl⟩
  | some o =>
    have hmem : o ∈ H := (obj_at ho).choose_spec.2.2.2.2.2.2
    have hw := hw o ho
    obtain ⟨k1, k2, k3⟩ := hH o hmem
    have hpl : o.parts.length ≤ 16777216 := by unfold headOk at k1; simp only [Bool.and_eq_true, decide_eq_true_eq] at k1; omega
    rw [ho] at hL
    simp only at hL
    by_cases hk : o.kind = 3 ∧ o.tag = 0
    · unfold partR partV at hP
      rw [ho] at hP
      obtain ⟨kd, tg, ps⟩ := o
      cases ps with
      | nil => simp at k2
      | cons p l =>
        simp only [Int.le_refl, if_true, List.length_cons] at *
        have e0 : (p :: l)[(0 : Int).toNat]? = some p := rfl
        rw [e0] at hP
        simp only at hP
        have hp := k3 p (by simp)
        have hT := ToInt_p p hp.1 hp.2
        unfold wordsOk at hw
        simp only [List.headD_cons, List.length_cons] at hw
        have hb : -4611686018427387904 ≤ toI p ∧ toI p ≤ 4611686018427387904 := by unfold toI W63; split <;> omega
        have hN := Need_c (toI p) (by omega) (by omega)
        generalize toI p = tp at *
        generalize isI p = ip at *
        have hnb : need tp ≤ 9000000000000000000 := by unfold need; omega
        generalize need tp = nn at *
        refine ACall.enter Try.func51 rfl (by kernel_rfl) rfl (Nat.le_of_ble_eq_true rfl) ?_
        refine c_start ?_
        refine c_seq ?_
        refine c_region ?_
        refine AOps.st 4 rfl rfl rfl (op_assign rfl rfl ?_)
        refine AOps.st 5 rfl rfl rfl (op_assign rfl rfl ?_)
        refine AOps.st 6 rfl rfl rfl (op_assign rfl rfl ?_)
        refine AOps.nil ?_
        refine go_code ?_
        refine c_seq ?_
        refine c_region ?_
        refine AOps.st 17 rfl rfl rfl (op_move rfl rfl ?_)
        refine AOps.st 18 rfl rfl rfl (op_move rfl rfl ?_)
        refine AOps.st 19 rfl rfl rfl (op_callk (xs := [.tmp 17, .tmp 18]) [0,0,0] rfl rfl rfl (hL) (by first | exact Les.refl _ | (repeat' (first | exact Les.refl _ | refine Les.cons ?_ ?_ | exact Le.refl _ | exact Le.own _ _ _ | exact Le.nil _ | refine Le.agg ?_))) ?_)
        refine AOps.st 16 rfl rfl rfl (op_move rfl rfl ?_)
        refine AOps.st 20 rfl rfl rfl (op_extract rfl rfl rfl ?_)
        refine AOps.st 21 rfl rfl rfl (op_extract rfl rfl rfl ?_)
        refine AOps.st 22 rfl rfl rfl (op_extract rfl rfl rfl ?_)
        refine AOps.st 23 rfl rfl rfl (op_extract rfl rfl rfl ?_)
        refine AOps.st 7 rfl rfl rfl (op_assign rfl rfl ?_)
        refine AOps.st 8 rfl rfl rfl (op_assign rfl rfl ?_)
        refine AOps.st 9 rfl rfl rfl (op_assign rfl rfl ?_)
        refine AOps.st 10 rfl rfl rfl (op_assign rfl rfl ?_)
        refine AOps.nil ?_
        refine go_code ?_
        refine c_seq ?_
        refine c_seq ?_
        refine c_bool 33 (False) ?_ _ _ rfl ?_
        · skip
          refine AOps.st 24 rfl rfl rfl (op_move rfl rfl ?_)
          refine AOps.st 25 rfl rfl rfl (op_notc rfl rfl ?_); intro c25 h25
          try replace h25 := nott h25 h23
          refine AOps.st 26 rfl rfl rfl (op_move rfl rfl ?_)
          rcases bool_split h25 with ⟨rfl, g25⟩ | ⟨rfl, g25⟩
          · skip
            refine AOps.gt 27 rfl rfl rfl rfl rfl (op_move rfl rfl ?_)
            refine AOps.gt 28 rfl rfl rfl rfl rfl (op_neq rfl rfl rfl ?_); intro c28 h28
            refine AOps.st 29 rfl rfl rfl (op_pick rfl rfl rfl ?_)
            refine AOps.st 30 rfl rfl rfl (op_move rfl rfl ?_)
            rcases bool_split h28 with ⟨rfl, g28⟩ | ⟨rfl, g28⟩
            · skip
              refine AOps.gt 31 rfl rfl rfl rfl rfl (op_move rfl rfl ?_)
              refine AOps.gt 32 rfl rfl rfl rfl rfl (op_neq rfl rfl rfl ?_); intro c32 h32
              refine AOps.st 33 rfl rfl rfl (op_pick rfl rfl rfl ?_)
              refine AOps.nil ?_
              refine BoolQ.mk rfl ?_ (by repeat' (first | exact SLe.wo _ _ | exact SLe.refl _ | refine SLe.fresh rfl ?_)) (by first | exact MLe.none _ | exact MLe.refl _ | (repeat' (first | exact MLe.nil | exact MLe.refl _ | refine MLe.cons _ ?_ | refine MLe.drop _ ?_)))
              first | (simp_all; done) | (simp_all; omega) | grind
            · skip
              refine AOps.gf 31 rfl rfl rfl rfl rfl ?_
              refine AOps.gf 32 rfl rfl rfl rfl rfl ?_
              refine AOps.st 33 rfl rfl rfl (op_pick rfl rfl rfl ?_)
              refine AOps.nil ?_
              refine BoolQ.mk rfl ?_ (by repeat' (first | exact SLe.wo _ _ | exact SLe.refl _ | refine SLe.fresh rfl ?_)) (by first | exact MLe.none _ | exact MLe.refl _ | (repeat' (first | exact MLe.nil | exact MLe.refl _ | refine MLe.cons _ ?_ | refine MLe.drop _ ?_)))
              first | (simp_all; done) | (simp_all; omega) | grind
          · skip
            refine AOps.gf 27 rfl rfl rfl rfl rfl ?_
            refine AOps.gf 28 rfl rfl rfl rfl rfl ?_
            refine AOps.st 29 rfl rfl rfl (op_pick rfl rfl rfl ?_)
            refine AOps.st 30 rfl rfl rfl (op_move rfl rfl ?_)
            refine AOps.gf 31 rfl rfl rfl rfl rfl ?_
            refine AOps.gf 32 rfl rfl rfl rfl rfl ?_
            refine AOps.st 33 rfl rfl rfl (op_pick rfl rfl rfl ?_)
            refine AOps.nil ?_
            refine BoolQ.mk rfl ?_ (by repeat' (first | exact SLe.wo _ _ | exact SLe.refl _ | refine SLe.fresh rfl ?_)) (by first | exact MLe.none _ | exact MLe.refl _ | (repeat' (first | exact MLe.nil | exact MLe.refl _ | refine MLe.cons _ ?_ | refine MLe.drop _ ?_)))
            first | (simp_all; done) | (simp_all; omega) | grind
        intro c33 h33
        refine go_code ?_
        rcases bool_split h33 with ⟨rfl, g33⟩ | ⟨rfl, g33⟩
        · refine c_cond_f rfl ?_
          refine c_skip ?_
          refine go_code ?_
          refine c_seq ?_
          refine c_region ?_
          refine AOps.st 35 rfl rfl rfl (op_move rfl rfl ?_)
          refine AOps.st 36 rfl rfl rfl (op_move rfl rfl ?_)
          refine AOps.st 37 rfl rfl rfl (op_callk (xs := [.tmp 35, .tmp 36, .const (.int .i64 0)]) [0,0,0] rfl rfl rfl (hP) (by first | exact Les.refl _ | (repeat' (first | exact Les.refl _ | refine Les.cons ?_ ?_ | exact Le.refl _ | exact Le.own _ _ _ | exact Le.nil _ | refine Le.agg ?_))) ?_)
          refine AOps.st 34 rfl rfl rfl (op_move rfl rfl ?_)
          refine AOps.st 38 rfl rfl rfl (op_extract rfl rfl rfl ?_)
          refine AOps.st 39 rfl rfl rfl (op_extract rfl rfl rfl ?_)
          refine AOps.st 11 rfl rfl rfl (op_assign rfl rfl ?_)
          refine AOps.st 12 rfl rfl rfl (op_assign rfl rfl ?_)
          refine AOps.nil ?_
          refine go_code ?_
          refine c_seq ?_
          refine c_region ?_
          refine AOps.st 41 rfl rfl rfl (op_move rfl rfl ?_)
          refine AOps.st 42 rfl rfl rfl (op_callp (xs := [.tmp 41]) rfl rfl (hT) (by first | exact Les.refl _ | (repeat' (first | exact Les.refl _ | refine Les.cons ?_ ?_ | exact Le.refl _ | exact Le.own _ _ _ | exact Le.nil _ | refine Le.agg ?_))) ?_)
          refine AOps.st 40 rfl rfl rfl (op_move rfl rfl ?_)
          refine AOps.st 43 rfl rfl rfl (op_extract rfl rfl rfl ?_)
          refine AOps.st 44 rfl rfl rfl (op_extract rfl rfl rfl ?_)
          refine AOps.st 13 rfl rfl rfl (op_assign rfl rfl ?_)
          refine AOps.st 10 rfl rfl rfl (op_assign rfl rfl ?_)
          refine AOps.nil ?_
          refine go_code ?_
          refine c_seq ?_
          refine c_seq ?_
          refine c_bool 64 (True) ?_ _ _ rfl ?_
          · skip
            refine AOps.st 45 rfl rfl rfl (op_move rfl rfl ?_)
            refine AOps.st 46 rfl rfl rfl (op_notc rfl rfl ?_); intro c46 h46
            try replace h46 := nott h46 h44
            refine AOps.st 47 rfl rfl rfl (op_move rfl rfl ?_)
            rcases bool_split h46 with ⟨rfl, g46⟩ | ⟨rfl, g46⟩
            · skip
              refine AOps.gt 48 rfl rfl rfl rfl rfl (op_move rfl rfl ?_)
              refine AOps.gt 49 rfl rfl rfl rfl rfl (op_lss rfl rfl rfl ?_); intro c49 h49
              refine AOps.st 50 rfl rfl rfl (op_pick rfl rfl rfl ?_)
              refine AOps.st 51 rfl rfl rfl (op_move rfl rfl ?_)
              rcases bool_split h49 with ⟨rfl, g49⟩ | ⟨rfl, g49⟩
              · skip
                refine AOps.gt 52 rfl rfl rfl rfl rfl (op_move rfl rfl ?_)
                refine AOps.gt 53 rfl rfl rfl rfl rfl (op_move rfl rfl ?_)
                first | (refine AOps.gt 54 rfl rfl rfl rfl rfl (op_sub rfl rfl rfl (IntWalk.i64_in _ (by omega)) ?_)) | (refine AOps.gt 54 rfl rfl rfl rfl rfl (op_sub rfl rfl rfl rfl ?_))
                first | (refine AOps.gt 55 rfl rfl rfl rfl rfl (op_mul rfl rfl rfl (IntWalk.i64_in _ (by omega)) ?_)) | (refine AOps.gt 55 rfl rfl rfl rfl rfl (op_mul rfl rfl rfl rfl ?_))
                refine AOps.gt 56 rfl rfl rfl rfl rfl (op_gtr rfl rfl rfl ?_); intro c56 h56
                refine AOps.st 57 rfl rfl rfl (op_pick rfl rfl rfl ?_)
                refine AOps.st 58 rfl rfl rfl (op_move rfl rfl ?_)
                rcases bool_split h56 with ⟨rfl, g56⟩ | ⟨rfl, g56⟩
                · skip
                  refine AOps.gt 59 rfl rfl rfl rfl rfl (op_move rfl rfl ?_)
                  refine AOps.gt 60 rfl rfl rfl rfl rfl (op_callp (xs := [.tmp 59]) rfl rfl (hN) (by first | exact Les.refl _ | (repeat' (first | exact Les.refl _ | refine Les.cons ?_ ?_ | exact Le.refl _ | exact Le.own _ _ _ | exact Le.nil _ | refine Le.agg ?_))) ?_)
                  refine AOps.gt 61 rfl rfl rfl rfl rfl (op_move rfl rfl ?_)
                  first | (refine AOps.gt 62 rfl rfl rfl rfl rfl (op_add rfl rfl rfl (IntWalk.i64_in _ (by omega)) ?_)) | (refine AOps.gt 62 rfl rfl rfl rfl rfl (op_add rfl rfl rfl rfl ?_))
                  refine AOps.gt 63 rfl rfl rfl rfl rfl (op_neq rfl rfl rfl ?_); intro c63 h63
                  refine AOps.st 64 rfl rfl rfl (op_pick rfl rfl rfl ?_)
                  refine AOps.nil ?_
                  refine BoolQ.mk rfl ?_ (by repeat' (first | exact SLe.wo _ _ | exact SLe.refl _ | refine SLe.fresh rfl ?_)) (by first | exact MLe.none _ | exact MLe.refl _ | (repeat' (first | exact MLe.nil | exact MLe.refl _ | refine MLe.cons _ ?_ | refine MLe.drop _ ?_)))
                  first | (simp_all; done) | (simp_all; omega) | grind
                · skip
                  refine AOps.gf 59 rfl rfl rfl rfl rfl ?_
                  refine AOps.gf 60 rfl rfl rfl rfl rfl ?_
                  refine AOps.gf 61 rfl rfl rfl rfl rfl ?_
                  refine AOps.gf 62 rfl rfl rfl rfl rfl ?_
                  refine AOps.gf 63 rfl rfl rfl rfl rfl ?_
                  refine AOps.st 64 rfl rfl rfl (op_pick rfl rfl rfl ?_)
                  refine AOps.nil ?_
                  refine BoolQ.mk rfl ?_ (by repeat' (first | exact SLe.wo _ _ | exact SLe.refl _ | refine SLe.fresh rfl ?_)) (by first | exact MLe.none _ | exact MLe.refl _ | (repeat' (first | exact MLe.nil | exact MLe.refl _ | refine MLe.cons _ ?_ | refine MLe.drop _ ?_)))
                  first | (simp_all; done) | (simp_all; omega) | grind
              · skip
                refine AOps.gf 52 rfl rfl rfl rfl rfl ?_
                refine AOps.gf 53 rfl rfl rfl rfl rfl ?_
                refine AOps.gf 54 rfl rfl rfl rfl rfl ?_
                refine AOps.gf 55 rfl rfl rfl rfl rfl ?_
                refine AOps.gf 56 rfl rfl rfl rfl rfl ?_
                refine AOps.st 57 rfl rfl rfl (op_pick rfl rfl rfl ?_)
                refine AOps.st 58 rfl rfl rfl (op_move rfl rfl ?_)
                refine AOps.gf 59 rfl rfl rfl rfl rfl ?_
                refine AOps.gf 60 rfl rfl rfl rfl rfl ?_
                refine AOps.gf 61 rfl rfl rfl rfl rfl ?_
                refine AOps.gf 62 rfl rfl rfl rfl rfl ?_
                refine AOps.gf 63 rfl rfl rfl rfl rfl ?_
                refine AOps.st 64 rfl rfl rfl (op_pick rfl rfl rfl ?_)
                refine AOps.nil ?_
                refine BoolQ.mk rfl ?_ (by repeat' (first | exact SLe.wo _ _ | exact SLe.refl _ | refine SLe.fresh rfl ?_)) (by first | exact MLe.none _ | exact MLe.refl _ | (repeat' (first | exact MLe.nil | exact MLe.refl _ | refine MLe.cons _ ?_ | refine MLe.drop _ ?_)))
                first | (simp_all; done) | (simp_all; omega) | grind
            · skip
              refine AOps.gf 48 rfl rfl rfl rfl rfl ?_
              refine AOps.gf 49 rfl rfl rfl rfl rfl ?_
              refine AOps.st 50 rfl rfl rfl (op_pick rfl rfl rfl ?_)
              refine AOps.st 51 rfl rfl rfl (op_move rfl rfl ?_)
              refine AOps.gf 52 rfl rfl rfl rfl rfl ?_
              refine AOps.gf 53 rfl rfl rfl rfl rfl ?_
              refine AOps.gf 54 rfl rfl rfl rfl rfl ?_
              refine AOps.gf 55 rfl rfl rfl rfl rfl ?_
              refine AOps.gf 56 rfl rfl rfl rfl rfl ?_
              refine AOps.st 57 rfl rfl rfl (op_pick rfl rfl rfl ?_)
              refine AOps.st 58 rfl rfl rfl (op_move rfl rfl ?_)
              refine AOps.gf 59 rfl rfl rfl rfl rfl ?_
              refine AOps.gf 60 rfl rfl rfl rfl rfl ?_
              refine AOps.gf 61 rfl rfl rfl rfl rfl ?_
              refine AOps.gf 62 rfl rfl rfl rfl rfl ?_
              refine AOps.gf 63 rfl rfl rfl rfl rfl ?_
              refine AOps.st 64 rfl rfl rfl (op_pick rfl rfl rfl ?_)
              refine AOps.nil ?_
              refine BoolQ.mk rfl ?_ (by repeat' (first | exact SLe.wo _ _ | exact SLe.refl _ | refine SLe.fresh rfl ?_)) (by first | exact MLe.none _ | exact MLe.refl _ | (repeat' (first | exact MLe.nil | exact MLe.refl _ | refine MLe.cons _ ?_ | refine MLe.drop _ ?_)))
              first | (simp_all; done) | (simp_all; omega) | grind
          intro c64 h64
          refine go_code ?_
          rcases bool_split h64 with ⟨rfl, g64⟩ | ⟨rfl, g64⟩
          · refine c_cond_f rfl ?_
            refine c_skip ?_
            refine go_code ?_
            refine c_seq ?_
            exact absurd trivial g64
          · refine c_cond_t rfl ?_
            refine c_seq ?_
            refine c_region ?_
            refine AOps.st 4 rfl rfl rfl (op_assign rfl rfl ?_)
            refine AOps.st 5 rfl rfl rfl (op_assign rfl rfl ?_)
            refine AOps.st 6 rfl rfl rfl (op_assign rfl rfl ?_)
            refine AOps.nil ?_
            refine go_code ?_
            refine c_ret ?_
            exact out_ttt rfl rfl rfl rfl (Le.refl _) (by first | exact MLe.none _ | exact MLe.refl _ | (repeat' (first | exact MLe.nil | exact MLe.refl _ | refine MLe.cons _ ?_ | refine MLe.drop _ ?_))) ⟨rfl, rfl⟩
        · refine c_cond_t rfl ?_
          refine c_seq ?_
          exact g33.elim
    · refine ACall.enter Try.func51 rfl (by kernel_rfl) rfl (Nat.le_of_ble_eq_true rfl) ?_
      refine c_start ?_
      refine c_seq ?_
      refine c_region ?_
      refine AOps.st 4 rfl rfl rfl (op_assign rfl rfl ?_)
      refine AOps.st 5 rfl rfl rfl (op_assign rfl rfl ?_)
      refine AOps.st 6 rfl rfl rfl (op_assign rfl rfl ?_)
      refine AOps.nil ?_
      refine go_code ?_
      refine c_seq ?_
      refine c_region ?_
      refine AOps.st 17 rfl rfl rfl (op_move rfl rfl ?_)
      refine AOps.st 18 rfl rfl rfl (op_move rfl rfl ?_)
      refine AOps.st 19 rfl rfl rfl (op_callk (xs := [.tmp 17, .tmp 18]) [0,0,0] rfl rfl rfl (hL) (by first | exact Les.refl _ | (repeat' (first | exact Les.refl _ | refine Les.cons ?_ ?_ | exact Le.refl _ | exact Le.own _ _ _ | exact Le.nil _ | refine Le.agg ?_))) ?_)
      refine AOps.st 16 rfl rfl rfl (op_move rfl rfl ?_)
      refine AOps.st 20 rfl rfl rfl (op_extract rfl rfl rfl ?_)
      refine AOps.st 21 rfl rfl rfl (op_extract rfl rfl rfl ?_)
      refine AOps.st 22 rfl rfl rfl (op_extract rfl rfl rfl ?_)
      refine AOps.st 23 rfl rfl rfl (op_extract rfl rfl rfl ?_)
      refine AOps.st 7 rfl rfl rfl (op_assign rfl rfl ?_)
      refine AOps.st 8 rfl rfl rfl (op_assign rfl rfl ?_)
      refine AOps.st 9 rfl rfl rfl (op_assign rfl rfl ?_)
      refine AOps.st 10 rfl rfl rfl (op_assign rfl rfl ?_)
      refine AOps.nil ?_
      refine go_code ?_
      refine c_seq ?_
      refine c_seq ?_
      refine c_bool 33 (True) ?_ _ _ rfl ?_
      · skip
        refine AOps.st 24 rfl rfl rfl (op_move rfl rfl ?_)
        refine AOps.st 25 rfl rfl rfl (op_notc rfl rfl ?_); intro c25 h25
        try replace h25 := nott h25 h23
        refine AOps.st 26 rfl rfl rfl (op_move rfl rfl ?_)
        rcases bool_split h25 with ⟨rfl, g25⟩ | ⟨rfl, g25⟩
        · skip
          refine AOps.gt 27 rfl rfl rfl rfl rfl (op_move rfl rfl ?_)
          refine AOps.gt 28 rfl rfl rfl rfl rfl (op_neq rfl rfl rfl ?_); intro c28 h28
          refine AOps.st 29 rfl rfl rfl (op_pick rfl rfl rfl ?_)
          refine AOps.st 30 rfl rfl rfl (op_move rfl rfl ?_)
          rcases bool_split h28 with ⟨rfl, g28⟩ | ⟨rfl, g28⟩
          · skip
            refine AOps.gt 31 rfl rfl rfl rfl rfl (op_move rfl rfl ?_)
            refine AOps.gt 32 rfl rfl rfl rfl rfl (op_neq rfl rfl rfl ?_); intro c32 h32
            refine AOps.st 33 rfl rfl rfl (op_pick rfl rfl rfl ?_)
            refine AOps.nil ?_
            refine BoolQ.mk rfl ?_ (by repeat' (first | exact SLe.wo _ _ | exact SLe.refl _ | refine SLe.fresh rfl ?_)) (by first | exact MLe.none _ | exact MLe.refl _ | (repeat' (first | exact MLe.nil | exact MLe.refl _ | refine MLe.cons _ ?_ | refine MLe.drop _ ?_)))
            first | (simp_all; done) | (simp_all; omega) | grind
          · skip
            refine AOps.gf 31 rfl rfl rfl rfl rfl ?_
            refine AOps.gf 32 rfl rfl rfl rfl rfl ?_
            refine AOps.st 33 rfl rfl rfl (op_pick rfl rfl rfl ?_)
            refine AOps.nil ?_
            refine BoolQ.mk rfl ?_ (by repeat' (first | exact SLe.wo _ _ | exact SLe.refl _ | refine SLe.fresh rfl ?_)) (by first | exact MLe.none _ | exact MLe.refl _ | (repeat' (first | exact MLe.nil | exact MLe.refl _ | refine MLe.cons _ ?_ | refine MLe.drop _ ?_)))
            first | (simp_all; done) | (simp_all; omega) | grind
        · skip
          refine AOps.gf 27 rfl rfl rfl rfl rfl ?_
          refine AOps.gf 28 rfl rfl rfl rfl rfl ?_
          refine AOps.st 29 rfl rfl rfl (op_pick rfl rfl rfl ?_)
          refine AOps.st 30 rfl rfl rfl (op_move rfl rfl ?_)
          refine AOps.gf 31 rfl rfl rfl rfl rfl ?_
          refine AOps.gf 32 rfl rfl rfl rfl rfl ?_
          refine AOps.st 33 rfl rfl rfl (op_pick rfl rfl rfl ?_)
          refine AOps.nil ?_
          refine BoolQ.mk rfl ?_ (by repeat' (first | exact SLe.wo _ _ | exact SLe.refl _ | refine SLe.fresh rfl ?_)) (by first | exact MLe.none _ | exact MLe.refl _ | (repeat' (first | exact MLe.nil | exact MLe.refl _ | refine MLe.cons _ ?_ | refine MLe.drop _ ?_)))
          first | (simp_all; done) | (simp_all; omega) | grind
      intro c33 h33
      refine go_code ?_
      rcases bool_split h33 with ⟨rfl, g33⟩ | ⟨rfl, g33⟩
      · refine c_cond_f rfl ?_
        refine c_skip ?_
        refine go_code ?_
        refine c_seq ?_
        exact absurd trivial g33
      · refine c_cond_t rfl ?_
        refine c_seq ?_
        refine c_region ?_
        refine AOps.st 4 rfl rfl rfl (op_assign rfl rfl ?_)
        refine AOps.st 5 rfl rfl rfl (op_assign rfl rfl ?_)
        refine AOps.st 6 rfl rfl rfl (op_assign rfl rfl ?_)
        refine AOps.nil ?_
        refine go_code ?_
        refine c_ret ?_
        exact out_ttt rfl rfl rfl rfl (Le.refl _) (by first | exact MLe.none _ | exact MLe.refl _ | (repeat' (first | exact MLe.nil | exact MLe.refl _ | refine MLe.cons _ ?_ | refine MLe.drop _ ?_))) ⟨rfl, rfl⟩
set_option maxHeartbeats 4000000 in
set_option maxRecDepth 100000 in
theorem Get_c (b : Nat) (sz : Int) (H : List HO) (M : Mem) (hM : HeapAt b sz H M) (h : 0 < sz) (hH : ∀ o ∈ H, o.ok) (hu : used H ≤ 1000000) (w : Int) (h0 : 0 ≤ w) (h1 : w ≤ 18446744073709551615) : KCall Try.prog 31 [.ptr b 0, .val (.int .u64 w)] M (getR H w) := by
  have hN := words_none b sz H M hM h hH (by omega) w h0 h1
  have hS := words_some b sz H M hM h hH (by omega) w h0 h1
  obtain ⟨r0, r1, r2, rfl⟩ := hM.three
  unfold getR getT
  cases ho : objOf H w with
  | none =>
    have hN := hN (fun o q => by rw [ho] at q; cases q)
    simp only
    refine ACall.enter Try.func31 rfl (by kernel_rfl) rfl (Nat.le_of_ble_eq_true rfl) ?_
    refine c_start ?_
    refine c_seq ?_
    refine c_region ?_
    refine AOps.st 4 rfl rfl rfl (op_assign rfl rfl ?_)
    refine AOps.st 5 rfl rfl rfl (op_assign rfl rfl ?_)
    refine AOps.nil ?_
    refine go_code ?_
    refine c_seq ?_
    refine c_region ?_
    refine AOps.st 12 rfl rfl rfl (op_move rfl rfl ?_)
    refine AOps.st 13 rfl rfl rfl (op_move rfl rfl ?_)
    refine AOps.st 14 rfl rfl rfl (op_callk (xs := [.tmp 12, .tmp 13]) [0,0,0] rfl rfl rfl (hN) (by first | exact Les.refl _ | (repeat' (first | exact Les.refl _ | refine Les.cons ?_ ?_ | exact Le.refl _ | exact Le.own _ _ _ | exact Le.nil _ | refine Le.agg ?_))) ?_)
    refine AOps.st 11 rfl rfl rfl (op_move rfl rfl ?_)
    refine AOps.st 15 rfl rfl rfl (op_extract rfl rfl rfl ?_)
    refine AOps.st 16 rfl rfl rfl (op_extract rfl rfl rfl ?_)
    refine AOps.st 17 rfl rfl rfl (op_extract rfl rfl rfl ?_)
    refine AOps.st 6 rfl rfl rfl (op_assign rfl rfl ?_)
    refine AOps.st 7 rfl rfl rfl (op_assign rfl rfl ?_)
    refine AOps.st 8 rfl rfl rfl (op_assign rfl rfl ?_)
    refine AOps.nil ?_
    refine go_code ?_
    refine c_seq ?_
    refine c_seq ?_
    refine c_region ?_
    refine AOps.st 18 rfl rfl rfl (op_move rfl rfl ?_)
    refine AOps.st 19 rfl rfl rfl (op_notc rfl rfl ?_); intro c19 h19
    try replace h19 := nott h19 h17
    refine AOps.nil ?_
    refine go_code ?_
    rcases bool_split h19 with ⟨rfl, g19⟩ | ⟨rfl, g19⟩
    · refine c_cond_f rfl ?_
      refine c_skip ?_
      refine go_code ?_
      refine c_seq ?_
      exact absurd g19 (by simp)
    · refine c_cond_t rfl ?_
      refine c_seq ?_
      refine c_region ?_
      refine AOps.st 4 rfl rfl rfl (op_assign rfl rfl ?_)
      refine AOps.st 5 rfl rfl rfl (op_assign rfl rfl ?_)
      refine AOps.nil ?_
      refine go_code ?_
      refine c_ret ?_
      exact out_tt rfl rfl rfl (Le.refl _) (by first | exact MLe.none _ | exact MLe.refl _ | (repeat' (first | exact MLe.nil | exact MLe.refl _ | refine MLe.cons _ ?_ | refine MLe.drop _ ?_))) ⟨rfl, rfl⟩
  | some o =>
    obtain ⟨a, _, _, a3, _, _, _, hmem⟩ := obj_at ho
    obtain ⟨k1, k2, k3⟩ := hH o hmem
    by_cases hw : wordsOk o
    · have hS := hS o ho hw
      have hnat := natsOf_cast (l := o.parts.tail) (fun x hx => (k3 x (List.mem_of_mem_tail hx)).1)
      have hlt : ∀ x ∈ natsOf o.parts.tail, x < 18446744073709551616 := by
        intro x hx
        obtain ⟨y, hy, rfl⟩ := List.mem_map.1 hx
        have := k3 y (List.mem_of_mem_tail hy)
        omega
      have hU := Unpack_p (natsOf o.parts.tail) (toI (o.parts.headD 0)) hlt (by simp [natsOf]; omega)
      rw [show (natsOf o.parts.tail).map ivN = (o.parts.tail).map iv by have e := congrArg (List.map iv) hnat; rw [List.map_map] at e; exact e] at hU
      simp only [hw, true_and]
      cases ht : tOk (natsOf o.parts.tail) (toI (o.parts.headD 0)) with
      | true =>
        rw [ht] at hU
        simp only [if_true]
        generalize tS (natsOf o.parts.tail) (toI (o.parts.headD 0)) = s at *
        refine ACall.enter Try.func31 rfl (by kernel_rfl) rfl (Nat.le_of_ble_eq_true rfl) ?_
        refine c_start ?_
        refine c_seq ?_
        refine c_region ?_
        refine AOps.st 4 rfl rfl rfl (op_assign rfl rfl ?_)
        refine AOps.st 5 rfl rfl rfl (op_assign rfl rfl ?_)
        refine AOps.nil ?_
        refine go_code ?_
        refine c_seq ?_
        refine c_region ?_
        refine AOps.st 12 rfl rfl rfl (op_move rfl rfl ?_)
        refine AOps.st 13 rfl rfl rfl (op_move rfl rfl ?_)
        refine AOps.st 14 rfl rfl rfl (op_callk (xs := [.tmp 12, .tmp 13]) [0,0,0] rfl rfl rfl (hS) (by first | exact Les.refl _ | (repeat' (first | exact Les.refl _ | refine Les.cons ?_ ?_ | exact Le.refl _ | exact Le.own _ _ _ | exact Le.nil _ | refine Le.agg ?_))) ?_)
        refine AOps.st 11 rfl rfl rfl (op_move rfl rfl ?_)
        refine AOps.st 15 rfl rfl rfl (op_extract rfl rfl rfl ?_)
        refine AOps.st 16 rfl rfl rfl (op_extract rfl rfl rfl ?_)
        refine AOps.st 17 rfl rfl rfl (op_extract rfl rfl rfl ?_)
        refine AOps.st 6 rfl rfl rfl (op_assign rfl rfl ?_)
        refine AOps.st 7 rfl rfl rfl (op_assign rfl rfl ?_)
        refine AOps.st 8 rfl rfl rfl (op_assign rfl rfl ?_)
        refine AOps.nil ?_
        refine go_code ?_
        refine c_seq ?_
        refine c_seq ?_
        refine c_region ?_
        refine AOps.st 18 rfl rfl rfl (op_move rfl rfl ?_)
        refine AOps.st 19 rfl rfl rfl (op_notc rfl rfl ?_); intro c19 h19
        try replace h19 := nott h19 h17
        refine AOps.nil ?_
        refine go_code ?_
        rcases bool_split h19 with ⟨rfl, g19⟩ | ⟨rfl, g19⟩
        · refine c_cond_f rfl ?_
          refine c_skip ?_
          refine go_code ?_
          refine c_seq ?_
          refine c_region ?_
          refine AOps.st 21 rfl rfl rfl (op_move rfl rfl ?_)
          refine AOps.st 22 rfl rfl rfl (op_move rfl rfl ?_)
          refine AOps.st 23 rfl rfl rfl (op_callp (xs := [.tmp 21, .tmp 22]) rfl rfl (hU) (by first | exact Les.refl _ | (repeat' (first | exact Les.refl _ | refine Les.cons ?_ ?_ | exact Le.refl _ | exact Le.own _ _ _ | exact Le.nil _ | refine Le.agg ?_))) ?_)
          refine AOps.st 20 rfl rfl rfl (op_move rfl rfl ?_)
          refine AOps.st 24 rfl rfl rfl (op_extract rfl rfl rfl ?_)
          refine AOps.st 25 rfl rfl rfl (op_extract rfl rfl rfl ?_)
          refine AOps.st 9 rfl rfl rfl (op_assign rfl rfl ?_)
          refine AOps.st 10 rfl rfl rfl (op_assign rfl rfl ?_)
          refine AOps.nil ?_
          refine go_code ?_
          refine c_seq ?_
          refine c_region ?_
          refine AOps.st 26 rfl rfl rfl (op_move rfl rfl ?_)
          refine AOps.st 27 rfl rfl rfl (op_move rfl rfl ?_)
          refine AOps.st 28 rfl rfl rfl (op_eql rfl rfl rfl ?_); intro c28 h28
          refine AOps.st 4 rfl rfl rfl (op_assign rfl rfl ?_)
          refine AOps.st 5 rfl rfl rfl (op_assign rfl rfl ?_)
          refine AOps.nil ?_
          refine go_code ?_
          refine c_ret ?_
          exact out_tt rfl rfl rfl (Le.tup (Les.cons (Le.refl _) (Les.cons (Le.beq (by simpa [okE] using h28)) (Les.refl _)))) (by first | exact MLe.none _ | exact MLe.refl _ | (repeat' (first | exact MLe.nil | exact MLe.refl _ | refine MLe.cons _ ?_ | refine MLe.drop _ ?_))) ⟨rfl, rfl⟩
        · refine c_cond_t rfl ?_
          refine c_seq ?_
          exact absurd g19 (by simp)
      | false =>
        have hs0 : tS (natsOf o.parts.tail) (toI (o.parts.headD 0)) = ⟨#[]⟩ := by unfold tS unpS; rw [ht]; rfl
        rw [ht, hs0] at hU
        simp only [Bool.false_eq_true, if_false]
        refine ACall.enter Try.func31 rfl (by kernel_rfl) rfl (Nat.le_of_ble_eq_true rfl) ?_
        refine c_start ?_
        refine c_seq ?_
        refine c_region ?_
        refine AOps.st 4 rfl rfl rfl (op_assign rfl rfl ?_)
        refine AOps.st 5 rfl rfl rfl (op_assign rfl rfl ?_)
        refine AOps.nil ?_
        refine go_code ?_
        refine c_seq ?_
        refine c_region ?_
        refine AOps.st 12 rfl rfl rfl (op_move rfl rfl ?_)
        refine AOps.st 13 rfl rfl rfl (op_move rfl rfl ?_)
        refine AOps.st 14 rfl rfl rfl (op_callk (xs := [.tmp 12, .tmp 13]) [0,0,0] rfl rfl rfl (hS) (by first | exact Les.refl _ | (repeat' (first | exact Les.refl _ | refine Les.cons ?_ ?_ | exact Le.refl _ | exact Le.own _ _ _ | exact Le.nil _ | refine Le.agg ?_))) ?_)
        refine AOps.st 11 rfl rfl rfl (op_move rfl rfl ?_)
        refine AOps.st 15 rfl rfl rfl (op_extract rfl rfl rfl ?_)
        refine AOps.st 16 rfl rfl rfl (op_extract rfl rfl rfl ?_)
        refine AOps.st 17 rfl rfl rfl (op_extract rfl rfl rfl ?_)
        refine AOps.st 6 rfl rfl rfl (op_assign rfl rfl ?_)
        refine AOps.st 7 rfl rfl rfl (op_assign rfl rfl ?_)
        refine AOps.st 8 rfl rfl rfl (op_assign rfl rfl ?_)
        refine AOps.nil ?_
        refine go_code ?_
        refine c_seq ?_
        refine c_seq ?_
        refine c_region ?_
        refine AOps.st 18 rfl rfl rfl (op_move rfl rfl ?_)
        refine AOps.st 19 rfl rfl rfl (op_notc rfl rfl ?_); intro c19 h19
        try replace h19 := nott h19 h17
        refine AOps.nil ?_
        refine go_code ?_
        rcases bool_split h19 with ⟨rfl, g19⟩ | ⟨rfl, g19⟩
        · refine c_cond_f rfl ?_
          refine c_skip ?_
          refine go_code ?_
          refine c_seq ?_
          refine c_region ?_
          refine AOps.st 21 rfl rfl rfl (op_move rfl rfl ?_)
          refine AOps.st 22 rfl rfl rfl (op_move rfl rfl ?_)
          refine AOps.st 23 rfl rfl rfl (op_callp (xs := [.tmp 21, .tmp 22]) rfl rfl (hU) (by first | exact Les.refl _ | (repeat' (first | exact Les.refl _ | refine Les.cons ?_ ?_ | exact Le.refl _ | exact Le.own _ _ _ | exact Le.nil _ | refine Le.agg ?_))) ?_)
          refine AOps.st 20 rfl rfl rfl (op_move rfl rfl ?_)
          refine AOps.st 24 rfl rfl rfl (op_extract rfl rfl rfl ?_)
          refine AOps.st 25 rfl rfl rfl (op_extract rfl rfl rfl ?_)
          refine AOps.st 9 rfl rfl rfl (op_assign rfl rfl ?_)
          refine AOps.st 10 rfl rfl rfl (op_assign rfl rfl ?_)
          refine AOps.nil ?_
          refine go_code ?_
          refine c_seq ?_
          refine c_region ?_
          refine AOps.st 26 rfl rfl rfl (op_move rfl rfl ?_)
          refine AOps.st 27 rfl rfl rfl (op_move rfl rfl ?_)
          refine AOps.st 28 rfl rfl rfl (op_eql rfl rfl rfl ?_); intro c28 h28
          refine AOps.st 4 rfl rfl rfl (op_assign rfl rfl ?_)
          refine AOps.st 5 rfl rfl rfl (op_assign rfl rfl ?_)
          refine AOps.nil ?_
          refine go_code ?_
          refine c_ret ?_
          exact out_tt rfl rfl rfl (Le.tup (Les.cons (Le.refl _) (Les.cons (Le.beq (by simpa [okE] using h28)) (Les.refl _)))) (by first | exact MLe.none _ | exact MLe.refl _ | (repeat' (first | exact MLe.nil | exact MLe.refl _ | refine MLe.cons _ ?_ | refine MLe.drop _ ?_))) ⟨rfl, rfl⟩
        · refine c_cond_t rfl ?_
          refine c_seq ?_
          exact absurd g19 (by simp)
    · have hN := hN (fun o' q => by rw [ho] at q; cases q; exact hw)
      simp only [hw, false_and, if_false]
      refine ACall.enter Try.func31 rfl (by kernel_rfl) rfl (Nat.le_of_ble_eq_true rfl) ?_
      refine c_start ?_
      refine c_seq ?_
      refine c_region ?_
      refine AOps.st 4 rfl rfl rfl (op_assign rfl rfl ?_)
      refine AOps.st 5 rfl rfl rfl (op_assign rfl rfl ?_)
      refine AOps.nil ?_
      refine go_code ?_
      refine c_seq ?_
      refine c_region ?_
      refine AOps.st 12 rfl rfl rfl (op_move rfl rfl ?_)
      refine AOps.st 13 rfl rfl rfl (op_move rfl rfl ?_)
      refine AOps.st 14 rfl rfl rfl (op_callk (xs := [.tmp 12, .tmp 13]) [0,0,0] rfl rfl rfl (hN) (by first | exact Les.refl _ | (repeat' (first | exact Les.refl _ | refine Les.cons ?_ ?_ | exact Le.refl _ | exact Le.own _ _ _ | exact Le.nil _ | refine Le.agg ?_))) ?_)
      refine AOps.st 11 rfl rfl rfl (op_move rfl rfl ?_)
      refine AOps.st 15 rfl rfl rfl (op_extract rfl rfl rfl ?_)
      refine AOps.st 16 rfl rfl rfl (op_extract rfl rfl rfl ?_)
      refine AOps.st 17 rfl rfl rfl (op_extract rfl rfl rfl ?_)
      refine AOps.st 6 rfl rfl rfl (op_assign rfl rfl ?_)
      refine AOps.st 7 rfl rfl rfl (op_assign rfl rfl ?_)
      refine AOps.st 8 rfl rfl rfl (op_assign rfl rfl ?_)
      refine AOps.nil ?_
      refine go_code ?_
      refine c_seq ?_
      refine c_seq ?_
      refine c_region ?_
      refine AOps.st 18 rfl rfl rfl (op_move rfl rfl ?_)
      refine AOps.st 19 rfl rfl rfl (op_notc rfl rfl ?_); intro c19 h19
      try replace h19 := nott h19 h17
      refine AOps.nil ?_
      refine go_code ?_
      rcases bool_split h19 with ⟨rfl, g19⟩ | ⟨rfl, g19⟩
      · refine c_cond_f rfl ?_
        refine c_skip ?_
        refine go_code ?_
        refine c_seq ?_
        exact absurd g19 (by simp)
      · refine c_cond_t rfl ?_
        refine c_seq ?_
        refine c_region ?_
        refine AOps.st 4 rfl rfl rfl (op_assign rfl rfl ?_)
        refine AOps.st 5 rfl rfl rfl (op_assign rfl rfl ?_)
        refine AOps.nil ?_
        refine go_code ?_
        refine c_ret ?_
        exact out_tt rfl rfl rfl (Le.refl _) (by first | exact MLe.none _ | exact MLe.refl _ | (repeat' (first | exact MLe.nil | exact MLe.refl _ | refine MLe.cons _ ?_ | refine MLe.drop _ ?_))) ⟨rfl, rfl⟩
end Go.Proofs.Ytecpnlhjjmcllaa
namespace Go.Proofs.Ytecpnlhjjmcllaa
open Go.RowKit
section
variable {P : Program} {al : Sl} {M : Mem} {K : AV → Mem → Prop} {o : Oper}
theorem ev_vals {n : Nat} {F : EH} {a : Act} (hs : Slots n F al a.tmps) : ∀ {xs : List Operand} {vs : List Value}, xs.mapM al.ev = some (vs.map AV.val) → xs.map a.eval = vs
  | [], vs, h => by
    cases vs with
    | nil => rfl
    | cons v vs => simp at h
  | x :: xs, vs, h => by
    simp only [List.mapM_cons, Option.bind_eq_bind, Option.bind_eq_some_iff, Option.pure_def, Option.some.injEq] at h
    obtain ⟨v, h1, ws, h2, h3⟩ := h
    cases vs with
    | nil => cases h3
    | cons u us =>
      simp only [List.map_cons, List.cons.injEq] at h3
      obtain ⟨rfl, rfl⟩ := h3
      rw [List.map_cons, ev_val hs h1, ev_vals hs h2]
theorem op_callx {f : FuncId} {fn : Func} {e : Array Value → Sem Value} {xs : List Operand} {ts : Array TypeId} {vs : List Value} {r : Value} (hf : P.funcs[f]? = some fn) (hname : (fn.name == "runtime.NumGoroutine") = false) (hb : fn.body.isNone = true) (hn : Extern.findNext fn = none) (he : Extern.find fn = some e)
    (ho : o.op = .call { callee := .value (.func f), args := xs.toArray, argTypes := ts }) (hx : xs.mapM al.ev = some (vs.map AV.val)) (hr : ∀ w, (e vs.toArray).run P w = .ok r w) (q : K (.val r) M) : OpT P o al M K :=
  OpT.plain fun n B F Mf a w hi hs => by
    refine ⟨r, .val r, ?_, q, .val _⟩
    have h := ev_vals hs hx
    have h2 : (callFunc f vs.toArray).run P w = .ok (.value r) w := by
      have h0 : (Sem.run P (e vs.toArray) w) = .ok r w := hr w
      unfold callFunc
      simp only [Sem.run_bind, run_program, Result.andThen_ok, hf, hname, hb, Bool.false_eq_true, if_false, if_true, hn, he]
      simp [h0]
    simp only [execOp, ho, resolve, Act.eval, Deferred.ofValue, Sem.run_bind, Sem.run_pure, Result.andThen_ok, invoke, List.map_toArray, List.append_toArray, List.nil_append, List.append_nil]
    have h' : xs.map (fun x => a.eval x) = vs := h
    rw [show (List.map a.eval xs) = vs from h]
    exact h2
theorem op_bytestr0 {x : Operand} {t t' e : TypeId} {v : AV} (ho : o.op = .convert t t' x) (ht : P.underlying t = some (.slice e)) (he : P.underlying e = some (.int .u8)) (ht' : P.underlying t' = some .string) (hx : al.ev x = some v) (hv : IsSeq v 1 []) (q : K (.val (.string ⟨#[]⟩)) M) : OpT P o al M K :=
  OpT.plain fun n B F Mf ac w hi hs => by
    have h := hv.rel (hs.ev hx)
    generalize hu : ac.eval x = u at h
    have key : ∃ ao cap, u = .slice ao 0 cap := by
      obtain ⟨ao, cap, h⟩ := h.seq_len
      exact ⟨ao, cap, h⟩
    obtain ⟨ao, cap, rfl⟩ := key
    refine ⟨_, _, ?_, q, .val _⟩
    have hr : (convert t t' (.slice ao 0 cap)).run P w = .ok (.string ⟨#[]⟩) w := by
      rw [run_convert_bytes_string w t t' e _ 0 cap ht he ht']
      cases ao <;> simp [Conv.bytesToString, loadCells, loadCellsFrom, ByteArray.empty, ByteArray.emptyWithCapacity] <;> rfl
    simp [execOp, ho, hu, hr]
/-- any bytes as a text -/
theorem op_bytestra {x : Operand} {t t' e : TypeId} {v : AV} {xs : List Int} (ho : o.op = .convert t t' x) (ht : P.underlying t = some (.slice e)) (he : P.underlying e = some (.int .u8)) (ht' : P.underlying t' = some .string) (hx : al.ev x = some v) (hv : IsSeq v 1 (bts xs)) (q : K (.val (.string (strOfNums xs))) M) : OpT P o al M K := by
  by_cases h0 : xs = []
  · subst h0
    exact op_bytestr0 ho ht he ht' hx hv q
  · exact op_bytestr ho ht he ht' hx hv h0 q
theorem op_sgtr {x y : Operand} {t t' : TypeId} {a b : ByteArray} (ho : o.op = .binOp .gtr t x y t') (hx : al.ev x = some (.val (.string a))) (hy : al.ev y = some (.val (.string b))) (q : ∀ c : Bool, (c = true ↔ ¬ (Op.bytesLess a.toList b.toList = true ∨ a.toList = b.toList)) → K (.val (.bool c)) M) : OpT P o al M K :=
  OpT.plain fun n B F Mf ac w hi hs => ⟨.bool (!(Op.bytesLess a.toList b.toList || a.toList == b.toList)), _, by simp [execOp, ho, ev_val hs hx, ev_val hs hy, eqGuard_str, binOp, Op.stringOp], q _ (by simp), .val _⟩
theorem op_slssc {x y : Operand} {t t' : TypeId} {a b : ByteArray} (ho : o.op = .binOp .lss t x y t') (hx : al.ev x = some (.val (.string a))) (hy : al.ev y = some (.val (.string b))) (q : ∀ c : Bool, (c = true ↔ Op.bytesLess a.toList b.toList = true) → K (.val (.bool c)) M) : OpT P o al M K :=
  op_slss ho hx hy (q _ Iff.rfl)
end
theorem Le.seqt {a b : ByteArray} (h : a = b) : Le (.val (.string a)) (.val (.string b)) := by rw [h]; exact Le.refl _
/-- what the two orders say of each other -/
theorem cmp_less : ∀ a b : List UInt8, (Op.bytesLess a b = true ↔ Lib.compareBytes a b = -1) ∧ (a = b ↔ Lib.compareBytes a b = 0)
  | [], [] => by simp [Op.bytesLess, Lib.compareBytes]
  | [], _ :: _ => by simp [Op.bytesLess, Lib.compareBytes]
  | _ :: _, [] => by simp [Op.bytesLess, Lib.compareBytes]
  | a :: x, b :: y => by
    obtain ⟨h1, h2⟩ := cmp_less x y
    simp only [Op.bytesLess, Lib.compareBytes, Bool.or_eq_true, decide_eq_true_eq, Bool.and_eq_true, beq_iff_eq, List.cons.injEq]
    by_cases q : a < b
    · have : a ≠ b := fun e => by subst e; exact absurd q (UInt8.lt_irrefl _)
      simp [q, this]
    · by_cases q2 : b < a
      · have : a ≠ b := fun e => by subst e; exact absurd q2 (UInt8.lt_irrefl _)
        simp [q, q2, this]
      · have : a = b := UInt8.le_antisymm (UInt8.not_lt.1 q2) (UInt8.not_lt.1 q)
        subst this
        simp [h1, h2]
theorem cmp_three : ∀ a b : List UInt8, Lib.compareBytes a b = -1 ∨ Lib.compareBytes a b = 0 ∨ Lib.compareBytes a b = 1
  | [], [] => by simp [Lib.compareBytes]
  | [], _ :: _ => by simp [Lib.compareBytes]
  | _ :: _, [] => by simp [Lib.compareBytes]
  | a :: x, b :: y => by
    rw [Lib.compareBytes]
    split
    · exact .inl rfl
    · split
      · exact .inr (.inr rfl)
      · exact cmp_three x y
theorem ba_list (a : ByteArray) : a.toList = a.data.toList := by
  rw [ByteArray.toList_eq]
end Go.Proofs.Ytecpnlhjjmcllaa
namespace Go.Proofs.Ytecpnlhjjmcllaa
open Go.RowKit
def orE (x : Option ByteArray) : ByteArray := x.getD ⟨#[]⟩
theorem getR_eq (H : List HO) (w : Int) : getR H w = .tup [.val (.string (orE (getT H w))), .val (.bool (getT H w).isSome)] := by
  unfold getR
  cases getT H w <;> rfl
theorem getT_some {H : List HO} {w : Int} {s : ByteArray} (hH : ∀ o ∈ H, o.ok) (h : getT H w = some s) : ∃ o, objOf H w = some o ∧ IsT o s := by
  unfold getT at h
  cases ho : objOf H w with
  | none => rw [ho] at h; cases h
  | some o =>
    rw [ho] at h
    simp only at h
    obtain ⟨a, _, _, a3, _, _, _, hmem⟩ := obj_at ho
    split at h
    · rename_i hw
      cases h
      exact ⟨o, rfl, (isT_iff (hH o hmem)).2 ⟨hw.1, hw.2, rfl⟩⟩
    · cases h
theorem getT_size {H : List HO} {w : Int} (hH : ∀ o ∈ H, o.ok) : (orE (getT H w)).size ≤ 8 * used H := by
  cases h : getT H w with
  | none => exact Nat.zero_le _
  | some s =>
    obtain ⟨o, ho, rfl, _⟩ := getT_some hH h
    obtain ⟨a, _, _, a3, _, _, _, hmem⟩ := obj_at ho
    have : (textO s).parts.length = (s.size + 7) / 8 + 1 := txt_len s
    show s.size ≤ _
    omega
theorem getT_text {H : List HO} {w : Int} {s : ByteArray} (h : objOf H w = some (textO s)) (hs : s.size ≤ 1000000000) : getT H w = some s := by
  obtain ⟨h1, h2, h3⟩ := text_words hs
  unfold getT
  rw [h]
  simp only
  rw [h2, h3, if_pos ⟨h1, (tOk_pack s).1⟩, (tOk_pack s).2]
set_option maxHeartbeats 4000000 in
set_option maxRecDepth 100000 in
theorem Len_c (b : Nat) (sz : Int) (H : List HO) (M : Mem) (hM : HeapAt b sz H M) (h : 0 < sz) (hH : ∀ o ∈ H, o.ok) (hu : used H ≤ 1000000) (w : Int) (h0 : 0 ≤ w) (h1 : w ≤ 18446744073709551615) : KCall Try.prog 33 [.ptr b 0, .val (.int .u64 w)] M (.tup [.val (.int .i64 (orE (getT H w)).size), .val (.bool (getT H w).isSome)]) := by
  have hG := Get_c b sz H M hM h hH hu w h0 h1
  rw [getR_eq] at hG
  obtain ⟨r0, r1, r2, rfl⟩ := hM.three
  generalize getT H w = g at *
  refine ACall.enter Try.func33 rfl (by kernel_rfl) rfl (Nat.le_of_ble_eq_true rfl) ?_
  refine c_start ?_
  refine c_seq ?_
  refine c_region ?_
  refine AOps.st 4 rfl rfl rfl (op_assign rfl rfl ?_)
  refine AOps.st 5 rfl rfl rfl (op_assign rfl rfl ?_)
  refine AOps.nil ?_
  refine go_code ?_
  refine c_seq ?_
  refine c_region ?_
  refine AOps.st 9 rfl rfl rfl (op_move rfl rfl ?_)
  refine AOps.st 10 rfl rfl rfl (op_move rfl rfl ?_)
  refine AOps.st 11 rfl rfl rfl (op_callk (xs := [.tmp 9, .tmp 10]) [0,0,0] rfl rfl rfl (hG) (by first | exact Les.refl _ | (repeat' (first | exact Les.refl _ | refine Les.cons ?_ ?_ | exact Le.refl _ | exact Le.own _ _ _ | exact Le.nil _ | refine Le.agg ?_))) ?_)
  refine AOps.st 8 rfl rfl rfl (op_move rfl rfl ?_)
  refine AOps.st 12 rfl rfl rfl (op_extract rfl rfl rfl ?_)
  refine AOps.st 13 rfl rfl rfl (op_extract rfl rfl rfl ?_)
  refine AOps.st 6 rfl rfl rfl (op_assign rfl rfl ?_)
  refine AOps.st 7 rfl rfl rfl (op_assign rfl rfl ?_)
  refine AOps.nil ?_
  refine go_code ?_
  refine c_seq ?_
  refine c_region ?_
  refine AOps.st 14 rfl rfl rfl (op_move rfl rfl ?_)
  refine AOps.st 15 rfl rfl rfl (op_len_str rfl tu_9 rfl ?_)
  refine AOps.st 16 rfl rfl rfl (op_move rfl rfl ?_)
  refine AOps.st 4 rfl rfl rfl (op_assign rfl rfl ?_)
  refine AOps.st 5 rfl rfl rfl (op_assign rfl rfl ?_)
  refine AOps.nil ?_
  refine go_code ?_
  refine c_ret ?_
  exact out_tt rfl rfl rfl (Le.refl _) (by first | exact MLe.none _ | exact MLe.refl _ | (repeat' (first | exact MLe.nil | exact MLe.refl _ | refine MLe.cons _ ?_ | refine MLe.drop _ ?_))) ⟨rfl, rfl⟩
set_option maxHeartbeats 4000000 in
set_option maxRecDepth 100000 in
theorem two_c (b : Nat) (sz : Int) (H : List HO) (M : Mem) (hM : HeapAt b sz H M) (h : 0 < sz) (hH : ∀ o ∈ H, o.ok) (hu : used H ≤ 1000000) (x y : Int) (h0 : 0 ≤ x) (h1 : x ≤ 18446744073709551615) (h2 : 0 ≤ y) (h3 : y ≤ 18446744073709551615) : KCall Try.prog 55 [.ptr b 0, .val (.int .u64 x), .val (.int .u64 y)] M (.tup [.val (.string (orE (getT H x))), .val (.string (orE (getT H y))), .val (.bool ((getT H x).isSome && (getT H y).isSome))]) := by
  have hX := Get_c b sz H M hM h hH hu x h0 h1
  have hY := Get_c b sz H M hM h hH hu y h2 h3
  rw [getR_eq] at hX hY
  obtain ⟨r0, r1, r2, rfl⟩ := hM.three
  generalize getT H x = gx at *
  generalize getT H y = gy at *
  cases gx with
  | none =>
    simp only [Option.isSome, Bool.false_and] at hX ⊢
    refine ACall.enter Try.func55 rfl (by kernel_rfl) rfl (Nat.le_of_ble_eq_true rfl) ?_
    refine c_start ?_
    refine c_seq ?_
    refine c_region ?_
    refine AOps.st 6 rfl rfl rfl (op_assign rfl rfl ?_)
    refine AOps.st 7 rfl rfl rfl (op_assign rfl rfl ?_)
    refine AOps.st 8 rfl rfl rfl (op_assign rfl rfl ?_)
    refine AOps.nil ?_
    refine go_code ?_
    refine c_seq ?_
    refine c_region ?_
    refine AOps.st 14 rfl rfl rfl (op_move rfl rfl ?_)
    refine AOps.st 15 rfl rfl rfl (op_move rfl rfl ?_)
    refine AOps.st 16 rfl rfl rfl (op_callk (xs := [.tmp 14, .tmp 15]) [0,0,0] rfl rfl rfl (hX) (by first | exact Les.refl _ | (repeat' (first | exact Les.refl _ | refine Les.cons ?_ ?_ | exact Le.refl _ | exact Le.own _ _ _ | exact Le.nil _ | refine Le.agg ?_))) ?_)
    refine AOps.st 13 rfl rfl rfl (op_move rfl rfl ?_)
    refine AOps.st 17 rfl rfl rfl (op_extract rfl rfl rfl ?_)
    refine AOps.st 18 rfl rfl rfl (op_extract rfl rfl rfl ?_)
    refine AOps.st 9 rfl rfl rfl (op_assign rfl rfl ?_)
    refine AOps.st 10 rfl rfl rfl (op_assign rfl rfl ?_)
    refine AOps.nil ?_
    refine go_code ?_
    refine c_seq ?_
    refine c_region ?_
    refine AOps.st 20 rfl rfl rfl (op_move rfl rfl ?_)
    refine AOps.st 21 rfl rfl rfl (op_move rfl rfl ?_)
    refine AOps.st 22 rfl rfl rfl (op_callk (xs := [.tmp 20, .tmp 21]) [0,0,0] rfl rfl rfl (hY) (by first | exact Les.refl _ | (repeat' (first | exact Les.refl _ | refine Les.cons ?_ ?_ | exact Le.refl _ | exact Le.own _ _ _ | exact Le.nil _ | refine Le.agg ?_))) ?_)
    refine AOps.st 19 rfl rfl rfl (op_move rfl rfl ?_)
    refine AOps.st 23 rfl rfl rfl (op_extract rfl rfl rfl ?_)
    refine AOps.st 24 rfl rfl rfl (op_extract rfl rfl rfl ?_)
    refine AOps.st 11 rfl rfl rfl (op_assign rfl rfl ?_)
    refine AOps.st 12 rfl rfl rfl (op_assign rfl rfl ?_)
    refine AOps.nil ?_
    refine go_code ?_
    refine c_seq ?_
    refine c_region ?_
    refine AOps.st 25 rfl rfl rfl (op_move rfl rfl ?_)
    refine AOps.st 26 rfl rfl rfl (op_move rfl rfl ?_)
    refine AOps.st 27 rfl rfl rfl (op_move rfl rfl ?_)
    refine AOps.st 28 rfl rfl rfl (op_move rfl rfl ?_)
    refine AOps.gf 29 rfl rfl rfl rfl rfl ?_
    refine AOps.st 30 rfl rfl rfl (op_pick rfl rfl rfl ?_)
    refine AOps.st 6 rfl rfl rfl (op_assign rfl rfl ?_)
    refine AOps.st 7 rfl rfl rfl (op_assign rfl rfl ?_)
    refine AOps.st 8 rfl rfl rfl (op_assign rfl rfl ?_)
    refine AOps.nil ?_
    refine go_code ?_
    refine c_ret ?_
    exact out_ttt rfl rfl rfl rfl (Le.refl _) (by first | exact MLe.none _ | exact MLe.refl _ | (repeat' (first | exact MLe.nil | exact MLe.refl _ | refine MLe.cons _ ?_ | refine MLe.drop _ ?_))) ⟨rfl, rfl⟩
  | some s =>
    simp only [Option.isSome, Bool.true_and] at hX ⊢
    refine ACall.enter Try.func55 rfl (by kernel_rfl) rfl (Nat.le_of_ble_eq_true rfl) ?_
    refine c_start ?_
    refine c_seq ?_
    refine c_region ?_
    refine AOps.st 6 rfl rfl rfl (op_assign rfl rfl ?_)
    refine AOps.st 7 rfl rfl rfl (op_assign rfl rfl ?_)
    refine AOps.st 8 rfl rfl rfl (op_assign rfl rfl ?_)
    refine AOps.nil ?_
    refine go_code ?_
    refine c_seq ?_
    refine c_region ?_
    refine AOps.st 14 rfl rfl rfl (op_move rfl rfl ?_)
    refine AOps.st 15 rfl rfl rfl (op_move rfl rfl ?_)
    refine AOps.st 16 rfl rfl rfl (op_callk (xs := [.tmp 14, .tmp 15]) [0,0,0] rfl rfl rfl (hX) (by first | exact Les.refl _ | (repeat' (first | exact Les.refl _ | refine Les.cons ?_ ?_ | exact Le.refl _ | exact Le.own _ _ _ | exact Le.nil _ | refine Le.agg ?_))) ?_)
    refine AOps.st 13 rfl rfl rfl (op_move rfl rfl ?_)
    refine AOps.st 17 rfl rfl rfl (op_extract rfl rfl rfl ?_)
    refine AOps.st 18 rfl rfl rfl (op_extract rfl rfl rfl ?_)
    refine AOps.st 9 rfl rfl rfl (op_assign rfl rfl ?_)
    refine AOps.st 10 rfl rfl rfl (op_assign rfl rfl ?_)
    refine AOps.nil ?_
    refine go_code ?_
    refine c_seq ?_
    refine c_region ?_
    refine AOps.st 20 rfl rfl rfl (op_move rfl rfl ?_)
    refine AOps.st 21 rfl rfl rfl (op_move rfl rfl ?_)
    refine AOps.st 22 rfl rfl rfl (op_callk (xs := [.tmp 20, .tmp 21]) [0,0,0] rfl rfl rfl (hY) (by first | exact Les.refl _ | (repeat' (first | exact Les.refl _ | refine Les.cons ?_ ?_ | exact Le.refl _ | exact Le.own _ _ _ | exact Le.nil _ | refine Le.agg ?_))) ?_)
    refine AOps.st 19 rfl rfl rfl (op_move rfl rfl ?_)
    refine AOps.st 23 rfl rfl rfl (op_extract rfl rfl rfl ?_)
    refine AOps.st 24 rfl rfl rfl (op_extract rfl rfl rfl ?_)
    refine AOps.st 11 rfl rfl rfl (op_assign rfl rfl ?_)
    refine AOps.st 12 rfl rfl rfl (op_assign rfl rfl ?_)
    refine AOps.nil ?_
    refine go_code ?_
    refine c_seq ?_
    refine c_region ?_
    refine AOps.st 25 rfl rfl rfl (op_move rfl rfl ?_)
    refine AOps.st 26 rfl rfl rfl (op_move rfl rfl ?_)
    refine AOps.st 27 rfl rfl rfl (op_move rfl rfl ?_)
    refine AOps.st 28 rfl rfl rfl (op_move rfl rfl ?_)
    refine AOps.gt 29 rfl rfl rfl rfl rfl (op_move rfl rfl ?_)
    refine AOps.st 30 rfl rfl rfl (op_pick rfl rfl rfl ?_)
    refine AOps.st 6 rfl rfl rfl (op_assign rfl rfl ?_)
    refine AOps.st 7 rfl rfl rfl (op_assign rfl rfl ?_)
    refine AOps.st 8 rfl rfl rfl (op_assign rfl rfl ?_)
    refine AOps.nil ?_
    refine go_code ?_
    refine c_ret ?_
    exact out_ttt rfl rfl rfl rfl (Le.refl _) (by first | exact MLe.none _ | exact MLe.refl _ | (repeat' (first | exact MLe.nil | exact MLe.refl _ | refine MLe.cons _ ?_ | refine MLe.drop _ ?_))) ⟨rfl, rfl⟩
set_option maxHeartbeats 4000000 in
set_option maxRecDepth 100000 in
theorem Compare_c (s t : ByteArray) : PCall Try.prog 56 [.val (.string s), .val (.string t)] (.val (.int .i64 (Lib.compareBytes s.data.toList t.data.toList))) := by
  have hC : PCall Try.prog 65 [.val (.string s), .val (.string t)] (.val (.int .i64 (Lib.compareBytes s.data.toList t.data.toList))) := by
    refine ACall.enter Try.func65 rfl (by kernel_rfl) rfl (Nat.le_of_ble_eq_true rfl) ?_
    refine c_start ?_
    refine c_seq ?_
    refine c_region ?_
    refine AOps.st 4 rfl rfl rfl (op_assign rfl rfl ?_)
    refine AOps.nil ?_
    refine go_code ?_
    refine c_seq ?_
    refine c_region ?_
    refine AOps.st 5 rfl rfl rfl (op_move rfl rfl ?_)
    refine AOps.st 6 rfl rfl rfl (op_move rfl rfl ?_)
    refine AOps.st 7 rfl rfl rfl (op_callx (vs := [.string s, .string t]) Try.func67 (by kernel_rfl) rfl (by kernel_rfl) rfl (xs := [.tmp 5, .tmp 6])  rfl rfl (fun w => Lib.run_compareString s t w) ?_)
    refine AOps.st 4 rfl rfl rfl (op_assign rfl rfl ?_)
    refine AOps.nil ?_
    refine go_code ?_
    refine c_ret ?_
    exact out_tmp rfl rfl (Le.refl _) (by first | exact MLe.none _ | exact MLe.refl _ | (repeat' (first | exact MLe.nil | exact MLe.refl _ | refine MLe.cons _ ?_ | refine MLe.drop _ ?_))) ⟨rfl, rfl⟩
  refine ACall.enter Try.func56 rfl (by kernel_rfl) rfl (Nat.le_of_ble_eq_true rfl) ?_
  refine c_start ?_
  refine c_seq ?_
  refine c_region ?_
  refine AOps.st 4 rfl rfl rfl (op_assign rfl rfl ?_)
  refine AOps.nil ?_
  refine go_code ?_
  refine c_seq ?_
  refine c_region ?_
  refine AOps.st 5 rfl rfl rfl (op_move rfl rfl ?_)
  refine AOps.st 6 rfl rfl rfl (op_move rfl rfl ?_)
  refine AOps.st 7 rfl rfl rfl (op_callp (xs := [.tmp 5, .tmp 6]) rfl rfl (hC) (by first | exact Les.refl _ | (repeat' (first | exact Les.refl _ | refine Les.cons ?_ ?_ | exact Le.refl _ | exact Le.own _ _ _ | exact Le.nil _ | refine Le.agg ?_))) ?_)
  refine AOps.st 4 rfl rfl rfl (op_assign rfl rfl ?_)
  refine AOps.nil ?_
  refine go_code ?_
  refine c_ret ?_
  exact out_tmp rfl rfl (Le.refl _) (by first | exact MLe.none _ | exact MLe.refl _ | (repeat' (first | exact MLe.nil | exact MLe.refl _ | refine MLe.cons _ ?_ | refine MLe.drop _ ?_))) ⟨rfl, rfl⟩
noncomputable def ordV (H : List HO) (x y : Int) : Int := Lib.compareBytes (orE (getT H x)).data.toList (orE (getT H y)).data.toList
set_option maxHeartbeats 4000000 in
set_option maxRecDepth 100000 in
theorem Order_c (b : Nat) (sz : Int) (H : List HO) (M : Mem) (hM : HeapAt b sz H M) (h : 0 < sz) (hH : ∀ o ∈ H, o.ok) (hu : used H ≤ 1000000) (x y : Int) (h0 : 0 ≤ x) (h1 : x ≤ 18446744073709551615) (h2 : 0 ≤ y) (h3 : y ≤ 18446744073709551615) : KCall Try.prog 34 [.ptr b 0, .val (.int .u64 x), .val (.int .u64 y)] M (.tup [.val (.int .i64 (if (getT H x).isSome && (getT H y).isSome then ordV H x y else 0)), .val (.bool ((getT H x).isSome && (getT H y).isSome))]) := by
  have hT := two_c b sz H M hM h hH hu x y h0 h1 h2 h3
  have hC := Compare_c (orE (getT H x)) (orE (getT H y))
  obtain ⟨r0, r1, r2, rfl⟩ := hM.three
  unfold ordV
  cases hb : (getT H x).isSome && (getT H y).isSome with
  | false =>
    rw [hb] at hT
    refine ACall.enter Try.func34 rfl (by kernel_rfl) rfl (Nat.le_of_ble_eq_true rfl) ?_
    refine c_start ?_
    refine c_seq ?_
    refine c_region ?_
    refine AOps.st 6 rfl rfl rfl (op_assign rfl rfl ?_)
    refine AOps.st 7 rfl rfl rfl (op_assign rfl rfl ?_)
    refine AOps.nil ?_
    refine go_code ?_
    refine c_seq ?_
    refine c_region ?_
    refine AOps.st 12 rfl rfl rfl (op_move rfl rfl ?_)
    refine AOps.st 13 rfl rfl rfl (op_move rfl rfl ?_)
    refine AOps.st 14 rfl rfl rfl (op_move rfl rfl ?_)
    refine AOps.st 15 rfl rfl rfl (op_callk (xs := [.tmp 12, .tmp 13, .tmp 14]) [0,0,0] rfl rfl rfl (hT) (by first | exact Les.refl _ | (repeat' (first | exact Les.refl _ | refine Les.cons ?_ ?_ | exact Le.refl _ | exact Le.own _ _ _ | exact Le.nil _ | refine Le.agg ?_))) ?_)
    refine AOps.st 11 rfl rfl rfl (op_move rfl rfl ?_)
    refine AOps.st 16 rfl rfl rfl (op_extract rfl rfl rfl ?_)
    refine AOps.st 17 rfl rfl rfl (op_extract rfl rfl rfl ?_)
    refine AOps.st 18 rfl rfl rfl (op_extract rfl rfl rfl ?_)
    refine AOps.st 8 rfl rfl rfl (op_assign rfl rfl ?_)
    refine AOps.st 9 rfl rfl rfl (op_assign rfl rfl ?_)
    refine AOps.st 10 rfl rfl rfl (op_assign rfl rfl ?_)
    refine AOps.nil ?_
    refine go_code ?_
    refine c_seq ?_
    refine c_seq ?_
    refine c_region ?_
    refine AOps.st 19 rfl rfl rfl (op_move rfl rfl ?_)
    refine AOps.st 20 rfl rfl rfl (op_notc rfl rfl ?_); intro c20 h20
    try replace h20 := nott h20 h18
    refine AOps.nil ?_
    refine go_code ?_
    rcases bool_split h20 with ⟨rfl, g20⟩ | ⟨rfl, g20⟩
    · refine c_cond_f rfl ?_
      refine c_skip ?_
      refine go_code ?_
      refine c_seq ?_
      exact absurd g20 (by simp)
    · refine c_cond_t rfl ?_
      refine c_seq ?_
      refine c_region ?_
      refine AOps.st 6 rfl rfl rfl (op_assign rfl rfl ?_)
      refine AOps.st 7 rfl rfl rfl (op_assign rfl rfl ?_)
      refine AOps.nil ?_
      refine go_code ?_
      refine c_ret ?_
      exact out_tt rfl rfl rfl (Le.refl _) (by first | exact MLe.none _ | exact MLe.refl _ | (repeat' (first | exact MLe.nil | exact MLe.refl _ | refine MLe.cons _ ?_ | refine MLe.drop _ ?_))) ⟨rfl, rfl⟩
  | true =>
    rw [hb] at hT
    refine ACall.enter Try.func34 rfl (by kernel_rfl) rfl (Nat.le_of_ble_eq_true rfl) ?_
    refine c_start ?_
    refine c_seq ?_
    refine c_region ?_
    refine AOps.st 6 rfl rfl rfl (op_assign rfl rfl ?_)
    refine AOps.st 7 rfl rfl rfl (op_assign rfl rfl ?_)
    refine AOps.nil ?_
    refine go_code ?_
    refine c_seq ?_
    refine c_region ?_
    refine AOps.st 12 rfl rfl rfl (op_move rfl rfl ?_)
    refine AOps.st 13 rfl rfl rfl (op_move rfl rfl ?_)
    refine AOps.st 14 rfl rfl rfl (op_move rfl rfl ?_)
    refine AOps.st 15 rfl rfl rfl (op_callk (xs := [.tmp 12, .tmp 13, .tmp 14]) [0,0,0] rfl rfl rfl (hT) (by first | exact Les.refl _ | (repeat' (first | exact Les.refl _ | refine Les.cons ?_ ?_ | exact Le.refl _ | exact Le.own _ _ _ | exact Le.nil _ | refine Le.agg ?_))) ?_)
    refine AOps.st 11 rfl rfl rfl (op_move rfl rfl ?_)
    refine AOps.st 16 rfl rfl rfl (op_extract rfl rfl rfl ?_)
    refine AOps.st 17 rfl rfl rfl (op_extract rfl rfl rfl ?_)
    refine AOps.st 18 rfl rfl rfl (op_extract rfl rfl rfl ?_)
    refine AOps.st 8 rfl rfl rfl (op_assign rfl rfl ?_)
    refine AOps.st 9 rfl rfl rfl (op_assign rfl rfl ?_)
    refine AOps.st 10 rfl rfl rfl (op_assign rfl rfl ?_)
    refine AOps.nil ?_
    refine go_code ?_
    refine c_seq ?_
    refine c_seq ?_
    refine c_region ?_
    refine AOps.st 19 rfl rfl rfl (op_move rfl rfl ?_)
    refine AOps.st 20 rfl rfl rfl (op_notc rfl rfl ?_); intro c20 h20
    try replace h20 := nott h20 h18
    refine AOps.nil ?_
    refine go_code ?_
    rcases bool_split h20 with ⟨rfl, g20⟩ | ⟨rfl, g20⟩
    · refine c_cond_f rfl ?_
      refine c_skip ?_
      refine go_code ?_
      refine c_seq ?_
      refine c_region ?_
      refine AOps.st 21 rfl rfl rfl (op_move rfl rfl ?_)
      refine AOps.st 22 rfl rfl rfl (op_move rfl rfl ?_)
      refine AOps.st 23 rfl rfl rfl (op_callp (xs := [.tmp 21, .tmp 22]) rfl rfl (hC) (by first | exact Les.refl _ | (repeat' (first | exact Les.refl _ | refine Les.cons ?_ ?_ | exact Le.refl _ | exact Le.own _ _ _ | exact Le.nil _ | refine Le.agg ?_))) ?_)
      refine AOps.st 6 rfl rfl rfl (op_assign rfl rfl ?_)
      refine AOps.st 7 rfl rfl rfl (op_assign rfl rfl ?_)
      refine AOps.nil ?_
      refine go_code ?_
      refine c_ret ?_
      exact out_tt rfl rfl rfl (Le.refl _) (by first | exact MLe.none _ | exact MLe.refl _ | (repeat' (first | exact MLe.nil | exact MLe.refl _ | refine MLe.cons _ ?_ | refine MLe.drop _ ?_))) ⟨rfl, rfl⟩
    · refine c_cond_t rfl ?_
      refine c_seq ?_
      exact absurd g20 (by simp)
/-- what two texts, one behind the other, come to -/
def CatR (sz : Int) (H : List HO) (x y : Int) (ok : Bool) (w : Int) (H' : List HO) : Prop :=
  ((getT H x).isSome && (getT H y).isSome) = true ∧ AllocR sz H (textO (orE (getT H x) ++ orE (getT H y))) ok w H' ∨ ((getT H x).isSome && (getT H y).isSome) = false ∧ ok = false ∧ w = 0 ∧ H' = H
set_option maxHeartbeats 4000000 in
set_option maxRecDepth 100000 in
theorem Cat_c (b : Nat) (sz : Int) (H : List HO) (M : Mem) (hM : HeapAt b sz H M) (h : 0 < sz) (hs : sz ≤ 16777216) (hH : ∀ o ∈ H, o.ok) (hu : used H ≤ 1000000) (x y : Int) (h0 : 0 ≤ x) (h1 : x ≤ 18446744073709551615) (h2 : 0 ≤ y) (h3 : y ≤ 18446744073709551615) : ACall Try.prog 35 [.ptr b 0, .val (.int .u64 x), .val (.int .u64 y)] M (fun v M' => ∃ ok w H', CatR sz H x y ok w H' ∧ v = .tup [.val (.int .u64 w), .val (.bool ok)] ∧ HeapAt b sz H' M') := by
  have hT := two_c b sz H M hM h hH hu x y h0 h1 h2 h3
  have hsx := getT_size (w := x) hH
  have hsy := getT_size (w := y) hH
  have hP := Put_c b sz H M hM h hs (by omega) (orE (getT H x) ++ orE (getT H y)) (by rw [ByteArray.size_append]; omega)
  unfold CatR
  have hM0 := hM
  obtain ⟨r0, r1, r2, rfl⟩ := hM.three
  cases hb : (getT H x).isSome && (getT H y).isSome with
  | false =>
    rw [hb] at hT
    refine ACall.enter Try.func35 rfl (by kernel_rfl) rfl (Nat.le_of_ble_eq_true rfl) ?_
    refine c_start ?_
    refine c_seq ?_
    refine c_region ?_
    refine AOps.st 6 rfl rfl rfl (op_assign rfl rfl ?_)
    refine AOps.st 7 rfl rfl rfl (op_assign rfl rfl ?_)
    refine AOps.nil ?_
    refine go_code ?_
    refine c_seq ?_
    refine c_region ?_
    refine AOps.st 12 rfl rfl rfl (op_move rfl rfl ?_)
    refine AOps.st 13 rfl rfl rfl (op_move rfl rfl ?_)
    refine AOps.st 14 rfl rfl rfl (op_move rfl rfl ?_)
    refine AOps.st 15 rfl rfl rfl (op_callk (xs := [.tmp 12, .tmp 13, .tmp 14]) [0,0,0] rfl rfl rfl (hT) (by first | exact Les.refl _ | (repeat' (first | exact Les.refl _ | refine Les.cons ?_ ?_ | exact Le.refl _ | exact Le.own _ _ _ | exact Le.nil _ | refine Le.agg ?_))) ?_)
    refine AOps.st 11 rfl rfl rfl (op_move rfl rfl ?_)
    refine AOps.st 16 rfl rfl rfl (op_extract rfl rfl rfl ?_)
    refine AOps.st 17 rfl rfl rfl (op_extract rfl rfl rfl ?_)
    refine AOps.st 18 rfl rfl rfl (op_extract rfl rfl rfl ?_)
    refine AOps.st 8 rfl rfl rfl (op_assign rfl rfl ?_)
    refine AOps.st 9 rfl rfl rfl (op_assign rfl rfl ?_)
    refine AOps.st 10 rfl rfl rfl (op_assign rfl rfl ?_)
    refine AOps.nil ?_
    refine go_code ?_
    refine c_seq ?_
    refine c_seq ?_
    refine c_region ?_
    refine AOps.st 19 rfl rfl rfl (op_move rfl rfl ?_)
    refine AOps.st 20 rfl rfl rfl (op_notc rfl rfl ?_); intro c20 h20
    try replace h20 := nott h20 h18
    refine AOps.nil ?_
    refine go_code ?_
    rcases bool_split h20 with ⟨rfl, g20⟩ | ⟨rfl, g20⟩
    · refine c_cond_f rfl ?_
      refine c_skip ?_
      refine go_code ?_
      refine c_seq ?_
      exact absurd g20 (by simp)
    · refine c_cond_t rfl ?_
      refine c_seq ?_
      refine c_region ?_
      refine AOps.st 6 rfl rfl rfl (op_assign rfl rfl ?_)
      refine AOps.st 7 rfl rfl rfl (op_assign rfl rfl ?_)
      refine AOps.nil ?_
      refine go_code ?_
      refine c_ret ?_
      exact out_tt rfl rfl rfl (Le.refl _) (MLe.refl _) ⟨_, _, _, .inr ⟨rfl, rfl, rfl, rfl⟩, rfl, hM0⟩
  | true =>
    rw [hb] at hT
    refine ACall.enter Try.func35 rfl (by kernel_rfl) rfl (Nat.le_of_ble_eq_true rfl) ?_
    refine c_start ?_
    refine c_seq ?_
    refine c_region ?_
    refine AOps.st 6 rfl rfl rfl (op_assign rfl rfl ?_)
    refine AOps.st 7 rfl rfl rfl (op_assign rfl rfl ?_)
    refine AOps.nil ?_
    refine go_code ?_
    refine c_seq ?_
    refine c_region ?_
    refine AOps.st 12 rfl rfl rfl (op_move rfl rfl ?_)
    refine AOps.st 13 rfl rfl rfl (op_move rfl rfl ?_)
    refine AOps.st 14 rfl rfl rfl (op_move rfl rfl ?_)
    refine AOps.st 15 rfl rfl rfl (op_callk (xs := [.tmp 12, .tmp 13, .tmp 14]) [0,0,0] rfl rfl rfl (hT) (by first | exact Les.refl _ | (repeat' (first | exact Les.refl _ | refine Les.cons ?_ ?_ | exact Le.refl _ | exact Le.own _ _ _ | exact Le.nil _ | refine Le.agg ?_))) ?_)
    refine AOps.st 11 rfl rfl rfl (op_move rfl rfl ?_)
    refine AOps.st 16 rfl rfl rfl (op_extract rfl rfl rfl ?_)
    refine AOps.st 17 rfl rfl rfl (op_extract rfl rfl rfl ?_)
    refine AOps.st 18 rfl rfl rfl (op_extract rfl rfl rfl ?_)
    refine AOps.st 8 rfl rfl rfl (op_assign rfl rfl ?_)
    refine AOps.st 9 rfl rfl rfl (op_assign rfl rfl ?_)
    refine AOps.st 10 rfl rfl rfl (op_assign rfl rfl ?_)
    refine AOps.nil ?_
    refine go_code ?_
    refine c_seq ?_
    refine c_seq ?_
    refine c_region ?_
    refine AOps.st 19 rfl rfl rfl (op_move rfl rfl ?_)
    refine AOps.st 20 rfl rfl rfl (op_notc rfl rfl ?_); intro c20 h20
    try replace h20 := nott h20 h18
    refine AOps.nil ?_
    refine go_code ?_
    rcases bool_split h20 with ⟨rfl, g20⟩ | ⟨rfl, g20⟩
    · refine c_cond_f rfl ?_
      refine c_skip ?_
      refine go_code ?_
      refine c_seq ?_
      refine c_region ?_
      refine AOps.st 21 rfl rfl rfl (op_move rfl rfl ?_)
      refine AOps.st 22 rfl rfl rfl (op_move rfl rfl ?_)
      refine AOps.st 23 rfl rfl rfl (op_move rfl rfl ?_)
      refine AOps.st 24 rfl rfl rfl (op_sadd rfl rfl rfl (by omega) ?_)
      refine AOps.st 25 rfl rfl rfl (op_callat [0,0,0] (xs := [.tmp 21, .tmp 24])  rfl rfl rfl hP (by first | exact Les.refl _ | (repeat' (first | exact Les.refl _ | refine Les.cons ?_ ?_ | exact Le.refl _ | exact Le.own _ _ _ | exact Le.nil _ | refine Le.agg ?_))) ?_)
      rintro v1 M1 ⟨ok, w, H', hr, rfl, hM'⟩
      refine AOps.st 26 rfl rfl rfl (op_extract rfl rfl rfl ?_)
      refine AOps.st 27 rfl rfl rfl (op_extract rfl rfl rfl ?_)
      refine AOps.st 6 rfl rfl rfl (op_assign rfl rfl ?_)
      refine AOps.st 7 rfl rfl rfl (op_assign rfl rfl ?_)
      refine AOps.nil ?_
      refine go_code ?_
      refine c_ret ?_
      exact out_tt (M' := M1) rfl rfl rfl (Le.refl _) (MLe.pre _ _) ⟨ok, w, H', .inl ⟨rfl, hr⟩, rfl, hM'⟩
    · refine c_cond_t rfl ?_
      refine c_seq ?_
      exact absurd g20 (by simp)
end Go.Proofs.Ytecpnlhjjmcllaa
namespace Go.Proofs.Ytecpnlhjjmcllaa
open Go.RowKit
theorem adr_lt {H : List HO} {k k' : Nat} {o : HO} (h : H[k]? = some o) (hk : k < k') : adr H k < adr H k' := by
  have h1 : H.take (k + 1) = (H.take k').take (k + 1) := by rw [List.take_take]; congr 1; omega
  have h2 := used_take (H.take k') (k + 1)
  rw [← h1, take_next h, used_app, used_one] at h2
  unfold adr; omega
theorem adr_inj {H : List HO} {k k' : Nat} {o o' : HO} (h : H[k]? = some o) (h' : H[k']? = some o') (e : adr H k = adr H k') : k = k' := by
  rcases Nat.lt_trichotomy k k' with q | q | q
  · have := adr_lt h q; omega
  · exact q
  · have := adr_lt h' q; omega
theorem objOf_num {H : List HO} {w : Int} {o : HO} (h : objOf H w = some o) : ∃ k, H[k]? = some o ∧ w = 2 * ((adr H k : Nat) : Int) := by
  obtain ⟨p, q, rfl, e⟩ := objFrom_some H 1 w o h
  refine ⟨p.length, by simp, ?_⟩
  rw [e, adr, List.take_left]
  omega
theorem rFind_none (br : Nat) (sz : Int) (H : List HO) (M : Mem) (hM : RefAt br sz H M) (hu : used H ≤ 16777216) (w : Int) (h : objOf H w = none) : KCall Try.prog 41 [.ptr br 0, .val (.int .u64 w)] M (.val (.int .i64 (-1))) :=
  (rFind_c br sz H M hM hu w).mono (by
    rintro v M' ⟨⟨k, o, _, h2, _⟩ | ⟨_, rfl⟩, rfl⟩
    · rw [h] at h2; cases h2
    · exact ⟨rfl, rfl⟩)
set_option maxHeartbeats 4000000 in
set_option maxRecDepth 100000 in
theorem rFind_some (br : Nat) (sz : Int) (H : List HO) (M : Mem) (hM : RefAt br sz H M) (hu : used H ≤ 16777216) (k : Nat) (o : HO) (hk : H[k]? = some o) : KCall Try.prog 41 [.ptr br 0, .val (.int .u64 (2 * ((adr H k : Nat) : Int)))] M (.val (.int .i64 k)) := by
  obtain ⟨u, rfl⟩ := hM
  have hl := oRows_len H 1
  refine ACall.enter Try.func41 rfl (by kernel_rfl) rfl (Nat.le_of_ble_eq_true rfl) ?_
  refine c_start ?_
  refine c_seq ?_
  refine c_region ?_
  refine AOps.st 4 rfl rfl rfl (op_assign rfl rfl ?_)
  refine AOps.nil ?_
  refine go_code ?_
  refine c_seq ?_
  refine c_seq ?_
  refine c_region ?_
  refine AOps.st 5 rfl rfl rfl (op_assign rfl rfl ?_)
  refine AOps.nil ?_
  refine go_code ?_
  refine c_block ?_
  apply c_loopkm [2, 3, 4, 5, 6, 7, 8, 9, 10, 11, 12, 13, 14, 15, 16, 17, 18, 19, 20, 21, 22, 23, 24, 25, 26, 27] (σ := Nat) (fun zz => match zz with | j => [(5, .val (.int .i64 j))]) (fun zz => match zz with | j => j ≤ k) (fun zz => match zz with | j => H.length - j) (0)
  · repeat' (first | exact Drops.nil | apply Drops.keep rfl | apply Drops.skip rfl)
  · exact Nat.zero_le _
  · exact (by repeat' (first | exact SLe.nil _ | refine SLe.cons rfl ?_ ?_ | exact Le.refl _ | exact Le.own _ _ _ | exact Le.nil _))
  rintro j hI
  try dsimp only [List.cons_append, List.nil_append] at hI ⊢
  refine c_seq ?_
  refine c_seq ?_
  refine c_region ?_
  refine AOps.st 6 rfl rfl rfl (op_move rfl rfl ?_)
  refine AOps.st 7 rfl rfl rfl (op_move rfl rfl ?_)
  first | (refine AOps.st 8 rfl rfl rfl (op_nilCheck_m rfl rfl ?_)) | (refine AOps.st 8 rfl rfl rfl (op_nilCheck_c rfl rfl ?_)) | (refine AOps.st 8 rfl rfl rfl (op_nilCheck_f rfl rfl ?_))
  first | (refine AOps.st 9 rfl rfl rfl (op_fieldAddr_m rfl tf_33_1 rfl ?_)) | (refine AOps.st 9 rfl rfl rfl (op_fieldAddr_c rfl tf_33_1 rfl rfl ?_))
  first | (refine AOps.st 10 rfl rfl rfl (op_load_m1 (i := 0) rfl ta_31 rfl rfl rfl ?_)) | (refine AOps.st 10 rfl rfl rfl (op_load_m1 (i := 1) rfl ta_31 rfl rfl rfl ?_)) | (refine AOps.st 10 rfl rfl rfl (op_load_m1 (i := 2) rfl ta_31 rfl rfl rfl ?_)) | (refine AOps.st 10 rfl rfl rfl (op_load_m1 (i := 3) rfl ta_31 rfl rfl rfl ?_)) | (refine AOps.st 10 rfl rfl rfl (op_load_m1 (i := 4) rfl ta_31 rfl rfl rfl ?_)) | (refine AOps.st 10 rfl rfl rfl (op_load_m1 (i := 5) rfl ta_31 rfl rfl rfl ?_)) | (refine AOps.st 10 rfl rfl rfl (op_load_m1 (i := 6) rfl ta_31 rfl rfl rfl ?_)) | (refine AOps.st 10 rfl rfl rfl (op_load_m1 (i := 7) rfl ta_31 rfl rfl rfl ?_)) | (refine AOps.st 10 rfl rfl rfl (op_load_m1 (i := 8) rfl ta_31 rfl rfl rfl ?_)) | (refine AOps.st 10 rfl rfl rfl (op_load_m1 (i := 9) rfl ta_31 rfl rfl rfl ?_)) | (refine AOps.st 10 rfl rfl rfl (op_load_c1 rfl ta_31 rfl rfl ?_))
  first | (refine AOps.st 11 rfl rfl rfl (op_len rfl tu_31 rfl (.seq _ _) (fun n11 => ?_))) | (refine AOps.st 11 rfl rfl rfl (op_len rfl tu_31 rfl (.own _ _ _) (fun n11 => ?_))) | (refine AOps.st 11 rfl rfl rfl (op_len rfl tu_31 rfl (.nil 0) (fun n11 => ?_))) | (refine AOps.st 11 rfl rfl rfl (op_len_arr rfl tu_31 rfl ?_))
  refine AOps.st 12 rfl rfl rfl (op_lss rfl rfl rfl ?_); intro c12 h12
  refine AOps.nil ?_
  refine go_code ?_
  rcases bool_split h12 with ⟨rfl, g12⟩ | ⟨rfl, g12⟩
  · refine c_cond_f rfl ?_
    refine c_exit ?_
    refine x_code ?_
    refine x_lp ?_
    refine x_here ?_
    refine go_code ?_
    refine c_seq ?_
    have hkl := get_lt hk
    omega
  · refine c_cond_t rfl ?_
    refine c_skip ?_
    refine go_code ?_
    refine c_seq ?_
    refine c_block ?_
    refine c_seq ?_
    have hkl := get_lt hk
    obtain ⟨o', ho⟩ := getk (l := H) (i := j) (by omega)
    have hg := oRows_get ho
    have hn := adr_fit ho
    have hn2 := adr_fit hk
    have hinj : adr H j = adr H k → j = k := adr_inj ho hk
    refine c_region ?_
    refine AOps.st 15 rfl rfl rfl (op_move rfl rfl ?_)
    first | (refine AOps.st 16 rfl rfl rfl (op_nilCheck_m rfl rfl ?_)) | (refine AOps.st 16 rfl rfl rfl (op_nilCheck_c rfl rfl ?_)) | (refine AOps.st 16 rfl rfl rfl (op_nilCheck_f rfl rfl ?_))
    first | (refine AOps.st 17 rfl rfl rfl (op_fieldAddr_m rfl tf_33_1 rfl ?_)) | (refine AOps.st 17 rfl rfl rfl (op_fieldAddr_c rfl tf_33_1 rfl rfl ?_))
    first | (refine AOps.st 18 rfl rfl rfl (op_load_m1 (i := 0) rfl ta_31 rfl rfl rfl ?_)) | (refine AOps.st 18 rfl rfl rfl (op_load_m1 (i := 1) rfl ta_31 rfl rfl rfl ?_)) | (refine AOps.st 18 rfl rfl rfl (op_load_m1 (i := 2) rfl ta_31 rfl rfl rfl ?_)) | (refine AOps.st 18 rfl rfl rfl (op_load_m1 (i := 3) rfl ta_31 rfl rfl rfl ?_)) | (refine AOps.st 18 rfl rfl rfl (op_load_m1 (i := 4) rfl ta_31 rfl rfl rfl ?_)) | (refine AOps.st 18 rfl rfl rfl (op_load_m1 (i := 5) rfl ta_31 rfl rfl rfl ?_)) | (refine AOps.st 18 rfl rfl rfl (op_load_m1 (i := 6) rfl ta_31 rfl rfl rfl ?_)) | (refine AOps.st 18 rfl rfl rfl (op_load_m1 (i := 7) rfl ta_31 rfl rfl rfl ?_)) | (refine AOps.st 18 rfl rfl rfl (op_load_m1 (i := 8) rfl ta_31 rfl rfl rfl ?_)) | (refine AOps.st 18 rfl rfl rfl (op_load_m1 (i := 9) rfl ta_31 rfl rfl rfl ?_)) | (refine AOps.st 18 rfl rfl rfl (op_load_c1 rfl ta_31 rfl rfl ?_))
    refine AOps.st 19 rfl rfl rfl (op_move rfl rfl ?_)
    first | (refine AOps.st 20 rfl rfl rfl (op_index rfl te_31 rfl (.seq _ _) rfl rfl (hg) ?_)) | (refine AOps.st 20 rfl rfl rfl (op_index (i := 0) rfl te_31 rfl (.seq _ _) rfl rfl (by first | rfl | assumption) ?_)) | (refine AOps.st 20 rfl rfl rfl (op_index (i := 1) rfl te_31 rfl (.seq _ _) rfl rfl (by first | rfl | assumption) ?_)) | (refine AOps.st 20 rfl rfl rfl (op_index rfl te_31 rfl (.own _ _ _) rfl rfl (hg) ?_)) | (refine AOps.st 20 rfl rfl rfl (op_index (i := 0) rfl te_31 rfl (.own _ _ _) rfl rfl (by first | rfl | assumption) ?_)) | (refine AOps.st 20 rfl rfl rfl (op_index (i := 1) rfl te_31 rfl (.own _ _ _) rfl rfl (by first | rfl | assumption) ?_)) | (refine AOps.st 20 rfl rfl rfl (op_index_arr rfl te_31 rfl rfl rfl (by omega) ?_))
    first | (refine AOps.st 21 rfl rfl rfl (op_fieldAddr_m rfl tf_86_0 rfl ?_)) | (refine AOps.st 21 rfl rfl rfl (op_fieldAddr_c rfl tf_86_0 rfl rfl ?_))
    first | (refine AOps.st 22 rfl rfl rfl (op_load_m1 (i := 0) rfl ta_3 rfl rfl rfl ?_)) | (refine AOps.st 22 rfl rfl rfl (op_load_m1 (i := 1) rfl ta_3 rfl rfl rfl ?_)) | (refine AOps.st 22 rfl rfl rfl (op_load_m1 (i := 2) rfl ta_3 rfl rfl rfl ?_)) | (refine AOps.st 22 rfl rfl rfl (op_load_m1 (i := 3) rfl ta_3 rfl rfl rfl ?_)) | (refine AOps.st 22 rfl rfl rfl (op_load_m1 (i := 4) rfl ta_3 rfl rfl rfl ?_)) | (refine AOps.st 22 rfl rfl rfl (op_load_m1 (i := 5) rfl ta_3 rfl rfl rfl ?_)) | (refine AOps.st 22 rfl rfl rfl (op_load_m1 (i := 6) rfl ta_3 rfl rfl rfl ?_)) | (refine AOps.st 22 rfl rfl rfl (op_load_m1 (i := 7) rfl ta_3 rfl rfl rfl ?_)) | (refine AOps.st 22 rfl rfl rfl (op_load_m1 (i := 8) rfl ta_3 rfl rfl rfl ?_)) | (refine AOps.st 22 rfl rfl rfl (op_load_m1 (i := 9) rfl ta_3 rfl rfl rfl ?_)) | (refine AOps.st 22 rfl rfl rfl (op_load_c1 rfl ta_3 rfl rfl ?_))
    first | (refine AOps.st 23 rfl rfl rfl (op_mul rfl rfl rfl (IntWalk.i64_in _ (by omega)) ?_)) | (refine AOps.st 23 rfl rfl rfl (op_mul rfl rfl rfl rfl ?_))
    first | (refine AOps.st 24 rfl rfl rfl (op_convert rfl tu_3 tu_42 rfl (IntWalk.u64_in _ (by omega)) ?_)) | (refine AOps.st 24 rfl rfl rfl (op_convert rfl tu_3 tu_42 rfl rfl ?_))
    refine AOps.st 25 rfl rfl rfl (op_move rfl rfl ?_)
    refine AOps.st 26 rfl rfl rfl (op_eql rfl rfl rfl ?_); intro c26 h26
    refine AOps.nil ?_
    refine go_code ?_
    rcases bool_split h26 with ⟨rfl, g26⟩ | ⟨rfl, g26⟩
    · refine c_cond_f rfl ?_
      refine c_skip ?_
      refine go_blk ?_
      refine go_code ?_
      refine c_region ?_
      refine AOps.st 13 rfl rfl rfl (op_move rfl rfl ?_)
      first | (refine AOps.st 14 rfl rfl rfl (op_add rfl rfl rfl (IntWalk.i64_in _ (by omega)) ?_)) | (refine AOps.st 14 rfl rfl rfl (op_add rfl rfl rfl rfl ?_))
      refine AOps.st 5 rfl rfl rfl (op_assign rfl rfl ?_)
      refine AOps.nil ?_
      refine go_lp ?_
      refine ⟨j + 1, ?_, by have := get_lt ho; show H.length - (j + 1) < H.length - j; omega, (by repeat' (first | exact SLe.nil _ | refine SLe.cons rfl ?_ ?_ | exact Le.refl _ | exact Le.own _ _ _ | exact Le.nil _)), (by first | exact MLe.none _ | exact MLe.refl _ | (repeat' (first | exact MLe.nil | exact MLe.refl _ | refine MLe.cons _ ?_ | refine MLe.drop _ ?_)))⟩
      have : j ≠ k := fun e => by subst e; omega
      show j + 1 ≤ k
      omega
    · refine c_cond_t rfl ?_
      refine c_seq ?_
      obtain rfl : j = k := hinj (by omega)
      refine c_region ?_
      refine AOps.st 27 rfl rfl rfl (op_move rfl rfl ?_)
      refine AOps.st 4 rfl rfl rfl (op_assign rfl rfl ?_)
      refine AOps.nil ?_
      refine go_code ?_
      refine c_ret ?_
      exact out_tmp rfl rfl (Le.refl _) (by first | exact MLe.none _ | exact MLe.refl _ | (repeat' (first | exact MLe.nil | exact MLe.refl _ | refine MLe.cons _ ?_ | refine MLe.drop _ ?_))) ⟨rfl, rfl⟩
def u8e (ns : List Nat) : List (List AV) := ns.map fun n : Nat => [.val (.int .u8 (n : Int))]
theorem u8e_bts (ns : List Nat) : u8e ns = bts (ns.map fun n : Nat => (n : Int)) := by unfold u8e bts; rw [List.map_map]; rfl
theorem u8e_len (ns : List Nat) : (u8e ns).length = ns.length := by simp [u8e]
theorem bytesOf_next (ls : List Nat) (n : Nat) : bytesOf ls (n + 1) = bytesOf ls n ++ [byteAt ls n] := by simp [bytesOf, List.range_succ]
theorem bytesOf_take (ls : List Nat) (n m : Nat) (h : n ≤ m) : (bytesOf ls m).take n = bytesOf ls n := by
  unfold bytesOf
  rw [← List.map_take, List.take_range, Nat.min_eq_left h]
theorem byteAt_word (ls : List Nat) (i j x : Nat) (hj : j < 8) (hx : ls[i]? = some x) : byteAt ls (8 * i + j) = x / 256 ^ j % 256 := by
  unfold byteAt
  rw [show (8 * i + j) / 8 = i by omega, show (8 * i + j) % 8 = j by omega, List.getD_eq_getElem?_getD, hx]
  rfl
theorem intW_inj {a b : Nat} (ha : a < 4611686018427387904) (hb : b < 4611686018427387904) (h : intW a = intW b) : a = b := by
  have h1 := (toI_intW a ha).1
  have h2 := (toI_intW b hb).1
  rw [h] at h1
  omega
theorem cast_inj {l : List Int} {ns : List Nat} (h : l = ns.map (fun n : Nat => (n : Int))) : natsOf l = ns := by rw [h]; exact natsOf_map ns
theorem get_yes {H : List HO} {w p : Int} {l : List Int} {n : Nat} (hb : ∀ x ∈ l, 0 ≤ x) (ho : objOf H w = some ⟨3, 0, p :: l⟩) (hn : n ≤ 1000000000) (hp : intW n = p) (hk : packL (bytesOf (natsOf l) n) = natsOf l) : getT H w = some (strN (bytesOf (natsOf l) n)) := by
  have h1 : bytesN (strN (bytesOf (natsOf l) n)) = bytesOf (natsOf l) n := bytesN_strN _ (fun x hx => by
    obtain ⟨i, _, rfl⟩ := List.mem_map.1 hx
    exact byteAt_lt _ _)
  have h2 : (strN (bytesOf (natsOf l) n)).size = n := by rw [strN_size, bytesOf_len]
  refine getT_text ?_ (by omega)
  rw [ho]
  unfold textO txt
  rw [h1, h2, hk, hp, natsOf_cast hb]
theorem get_not {H : List HO} {w p : Int} {l : List Int} (hH : ∀ o ∈ H, o.ok) (ho : objOf H w = some ⟨3, 0, p :: l⟩) (h : ∀ n : Nat, n ≤ 8 * l.length → intW n = p → packL (bytesOf (natsOf l) n) ≠ natsOf l) : getT H w = none := by
  cases hg : getT H w with
  | none => rfl
  | some s =>
    obtain ⟨o, ho2, rfl, hs⟩ := getT_some hH hg
    rw [ho] at ho2
    have e := Option.some.inj ho2
    unfold textO txt at e
    simp only [HO.mk.injEq, List.cons.injEq, true_and] at e
    have e2 := cast_inj e.2
    have hl : l.length = (s.size + 7) / 8 := by
      have := congrArg List.length e2
      rw [packL_len, bytesN_len] at this
      simpa [natsOf] using this
    refine absurd ?_ (h s.size (by omega) e.1.symm)
    rw [e2]
    have := bytes_pack (bytesN s) (bytesN_lt s)
    rw [bytesN_len] at this
    rw [this]
set_option maxHeartbeats 4000000 in
set_option maxRecDepth 100000 in
theorem rGet_c (br : Nat) (sz : Int) (H : List HO) (M : Mem) (hM : RefAt br sz H M) (hH : ∀ o ∈ H, o.ok) (hu : used H ≤ 1000000) (w : Int) : KCall Try.prog 32 [.ptr br 0, .val (.int .u64 w)] M (getR H w) := by
  rw [getR_eq]
  cases ho : objOf H w with
  | none =>
    have hF := rFind_none br sz H M hM (by omega) w ho
    have hg : getT H w = none := by unfold getT; rw [ho]
    rw [hg]
    obtain ⟨r0, r1, rfl⟩ := hM.two
    refine ACall.enter Try.func32 rfl (by kernel_rfl) rfl (Nat.le_of_ble_eq_true rfl) ?_
    refine c_start ?_
    refine c_seq ?_
    refine c_region ?_
    refine AOps.st 4 rfl rfl rfl (op_assign rfl rfl ?_)
    refine AOps.st 5 rfl rfl rfl (op_assign rfl rfl ?_)
    refine AOps.nil ?_
    refine go_code ?_
    refine c_seq ?_
    refine c_region ?_
    refine AOps.st 16 rfl rfl rfl (op_move rfl rfl ?_)
    refine AOps.st 17 rfl rfl rfl (op_move rfl rfl ?_)
    refine AOps.st 18 rfl rfl rfl (op_callk (xs := [.tmp 16, .tmp 17]) [0,0] rfl rfl rfl (hF) (by first | exact Les.refl _ | (repeat' (first | exact Les.refl _ | refine Les.cons ?_ ?_ | exact Le.refl _ | exact Le.own _ _ _ | exact Le.nil _ | refine Le.agg ?_))) ?_)
    refine AOps.st 6 rfl rfl rfl (op_assign rfl rfl ?_)
    refine AOps.nil ?_
    refine go_code ?_
    refine c_seq ?_
    refine c_seq ?_
    refine c_bool 42 (True) ?_ _ _ rfl ?_
    · skip
      refine AOps.st 19 rfl rfl rfl (op_move rfl rfl ?_)
      refine AOps.st 20 rfl rfl rfl (op_lss rfl rfl rfl ?_); intro c20 h20
      refine AOps.st 21 rfl rfl rfl (op_move rfl rfl ?_)
      rcases bool_split h20 with ⟨rfl, g20⟩ | ⟨rfl, g20⟩
      · exact absurd (by decide) g20
      · skip
        refine AOps.gf 22 rfl rfl rfl rfl rfl ?_
        refine AOps.gf 23 rfl rfl rfl rfl rfl ?_
        refine AOps.gf 24 rfl rfl rfl rfl rfl ?_
        refine AOps.gf 25 rfl rfl rfl rfl rfl ?_
        refine AOps.gf 26 rfl rfl rfl rfl rfl ?_
        refine AOps.gf 27 rfl rfl rfl rfl rfl ?_
        refine AOps.gf 28 rfl rfl rfl rfl rfl ?_
        refine AOps.gf 29 rfl rfl rfl rfl rfl ?_
        refine AOps.gf 30 rfl rfl rfl rfl rfl ?_
        refine AOps.st 31 rfl rfl rfl (op_pick rfl rfl rfl ?_)
        refine AOps.st 32 rfl rfl rfl (op_move rfl rfl ?_)
        refine AOps.gf 33 rfl rfl rfl rfl rfl ?_
        refine AOps.gf 34 rfl rfl rfl rfl rfl ?_
        refine AOps.gf 35 rfl rfl rfl rfl rfl ?_
        refine AOps.gf 36 rfl rfl rfl rfl rfl ?_
        refine AOps.gf 37 rfl rfl rfl rfl rfl ?_
        refine AOps.gf 38 rfl rfl rfl rfl rfl ?_
        refine AOps.gf 39 rfl rfl rfl rfl rfl ?_
        refine AOps.gf 40 rfl rfl rfl rfl rfl ?_
        refine AOps.gf 41 rfl rfl rfl rfl rfl ?_
        refine AOps.st 42 rfl rfl rfl (op_pick rfl rfl rfl ?_)
        refine AOps.nil ?_
        refine BoolQ.mk rfl ?_ (by repeat' (first | exact SLe.wo _ _ | exact SLe.refl _ | refine SLe.fresh rfl ?_)) (by first | exact MLe.none _ | exact MLe.refl _ | (repeat' (first | exact MLe.nil | exact MLe.refl _ | refine MLe.cons _ ?_ | refine MLe.drop _ ?_)))
        first | (simp_all; done) | (simp_all; omega)
    intro c42 h42
    refine go_code ?_
    rcases bool_split h42 with ⟨rfl, g42⟩ | ⟨rfl, g42⟩
    · refine c_cond_f rfl ?_
      refine c_skip ?_
      refine go_code ?_
      refine c_seq ?_
      exact absurd trivial g42
    · refine c_cond_t rfl ?_
      refine c_seq ?_
      refine c_region ?_
      refine AOps.st 4 rfl rfl rfl (op_assign rfl rfl ?_)
      refine AOps.st 5 rfl rfl rfl (op_assign rfl rfl ?_)
      refine AOps.nil ?_
      refine go_code ?_
      refine c_ret ?_
      exact out_tt rfl rfl rfl (Le.refl _) (by first | exact MLe.none _ | exact MLe.refl _ | (repeat' (first | exact MLe.nil | exact MLe.refl _ | refine MLe.cons _ ?_ | refine MLe.drop _ ?_))) ⟨rfl, rfl⟩
  | some o =>
    obtain ⟨kk, hkk, rfl⟩ := objOf_num ho
    have hF := rFind_some br sz H M hM (by omega) kk o hkk
    have hgr := oRows_get hkk
    have hmem := List.mem_of_getElem? hkk
    have hok := hH o hmem
    have hfit := adr_fit hkk
    obtain ⟨u0, rfl⟩ := hM
    have hl0 := oRows_len H 1
    have hkl := get_lt hkk
    have hHl : H.length ≤ used H := by
      clear hl0 hu hF hgr hmem hok hfit hkl hkk ho hH
      induction H with
      | nil => simp
      | cons o H ih => rw [used_cons, List.length_cons]; omega
    by_cases hk : o.kind = 3 ∧ o.tag = 0
    · obtain ⟨kd, tg, ps⟩ := o
      simp only at hk
      obtain ⟨rfl, rfl⟩ := hk
      cases ps with
      | nil => have := hok.2.1; simp at this
      | cons p l =>
        have hpb := hok.2.2
        simp only [List.length_cons] at hfit hpb
        have hb0 : ∀ x ∈ l, 0 ≤ x := fun x hx => (hpb x (by simp [hx])).1
        have hyes := fun n hn hp hk => get_yes (n := n) hb0 ho hn hp hk
        have hnot := get_not hH ho
        generalize hgT : getT H (2 * ((adr H kk : Nat) : Int)) = gT at *
        have hnl : (natsOf l).length = l.length := by simp [natsOf]
        have hiv : l.map iv = (natsOf l).map ivN := by
          have e := congrArg (List.map iv) (natsOf_cast hb0)
          rw [List.map_map] at e
          exact e.symm
        have hls : ∀ x ∈ natsOf l, x ≤ 18446744073709551615 := by
          intro x hx
          obtain ⟨y, hy, rfl⟩ := List.mem_map.1 hx
          have := hpb y (by simp [hy])
          omega
        have hrow : oRow (adr H kk) ⟨3, 0, p :: l⟩ = [.val (.int .i64 (adr H kk)), .val (.int .i64 3), .val (.int .i64 0), .seq 1 (iv p :: (natsOf l).map ivN)] := by
          unfold oRow
          rw [List.map_cons, hiv]
        rw [hrow] at hgr
        generalize natsOf l = ls at *
        generalize l.length = L at *
        clear hiv hpb hb0 hok hrow hgT ho hmem hkk
        have hgv : (ls.map ivN).length = L := by simpa using hnl
        have hgl0 : (iv p :: ls.map ivN).length = L + 1 := by simpa using hnl
        have hgx : ∀ (i x : Nat), ls[i]? = some x → (iv p :: ls.map ivN)[i + 1]? = some (ivN x) := fun i x hx => by simp [hx]
        have hgl : ∀ i x : Nat, ls[i]? = some x → x ≤ 18446744073709551615 := fun i x hx => hls x (List.mem_of_getElem? hx)
        refine ACall.enter Try.func32 rfl (by kernel_rfl) rfl (Nat.le_of_ble_eq_true rfl) ?_
        refine c_start ?_
        refine c_seq ?_
        refine c_region ?_
        refine AOps.st 4 rfl rfl rfl (op_assign rfl rfl ?_)
        refine AOps.st 5 rfl rfl rfl (op_assign rfl rfl ?_)
        refine AOps.nil ?_
        refine go_code ?_
        refine c_seq ?_
        refine c_region ?_
        refine AOps.st 16 rfl rfl rfl (op_move rfl rfl ?_)
        refine AOps.st 17 rfl rfl rfl (op_move rfl rfl ?_)
        refine AOps.st 18 rfl rfl rfl (op_callk (xs := [.tmp 16, .tmp 17]) [0,0] rfl rfl rfl (hF) (by first | exact Les.refl _ | (repeat' (first | exact Les.refl _ | refine Les.cons ?_ ?_ | exact Le.refl _ | exact Le.own _ _ _ | exact Le.nil _ | refine Le.agg ?_))) ?_)
        refine AOps.st 6 rfl rfl rfl (op_assign rfl rfl ?_)
        refine AOps.nil ?_
        refine go_code ?_
        refine c_seq ?_
        refine c_seq ?_
        refine c_bool 42 (False) ?_ _ _ rfl ?_
        · skip
          refine AOps.st 19 rfl rfl rfl (op_move rfl rfl ?_)
          refine AOps.st 20 rfl rfl rfl (op_lss rfl rfl rfl ?_); intro c20 h20
          refine AOps.st 21 rfl rfl rfl (op_move rfl rfl ?_)
          rcases bool_split h20 with ⟨rfl, g20⟩ | ⟨rfl, g20⟩
          · skip
            refine AOps.gt 22 rfl rfl rfl rfl rfl (op_move rfl rfl ?_)
            first | (refine AOps.gt 23 rfl rfl rfl rfl rfl (op_nilCheck_m rfl rfl ?_)) | (refine AOps.gt 23 rfl rfl rfl rfl rfl (op_nilCheck_c rfl rfl ?_)) | (refine AOps.gt 23 rfl rfl rfl rfl rfl (op_nilCheck_f rfl rfl ?_))
            first | (refine AOps.gt 24 rfl rfl rfl rfl rfl (op_fieldAddr_m rfl tf_33_1 rfl ?_)) | (refine AOps.gt 24 rfl rfl rfl rfl rfl (op_fieldAddr_c rfl tf_33_1 rfl rfl ?_))
            first | (refine AOps.gt 25 rfl rfl rfl rfl rfl (op_load_m1 (i := 0) rfl ta_31 rfl rfl rfl ?_)) | (refine AOps.gt 25 rfl rfl rfl rfl rfl (op_load_m1 (i := 1) rfl ta_31 rfl rfl rfl ?_)) | (refine AOps.gt 25 rfl rfl rfl rfl rfl (op_load_m1 (i := 2) rfl ta_31 rfl rfl rfl ?_)) | (refine AOps.gt 25 rfl rfl rfl rfl rfl (op_load_m1 (i := 3) rfl ta_31 rfl rfl rfl ?_)) | (refine AOps.gt 25 rfl rfl rfl rfl rfl (op_load_m1 (i := 4) rfl ta_31 rfl rfl rfl ?_)) | (refine AOps.gt 25 rfl rfl rfl rfl rfl (op_load_m1 (i := 5) rfl ta_31 rfl rfl rfl ?_)) | (refine AOps.gt 25 rfl rfl rfl rfl rfl (op_load_m1 (i := 6) rfl ta_31 rfl rfl rfl ?_)) | (refine AOps.gt 25 rfl rfl rfl rfl rfl (op_load_m1 (i := 7) rfl ta_31 rfl rfl rfl ?_)) | (refine AOps.gt 25 rfl rfl rfl rfl rfl (op_load_m1 (i := 8) rfl ta_31 rfl rfl rfl ?_)) | (refine AOps.gt 25 rfl rfl rfl rfl rfl (op_load_m1 (i := 9) rfl ta_31 rfl rfl rfl ?_)) | (refine AOps.gt 25 rfl rfl rfl rfl rfl (op_load_c1 rfl ta_31 rfl rfl ?_))
            refine AOps.gt 26 rfl rfl rfl rfl rfl (op_move rfl rfl ?_)
            first | (refine AOps.gt 27 rfl rfl rfl rfl rfl (op_index rfl te_31 rfl (.seq _ _) rfl rfl (hgr) ?_)) | (refine AOps.gt 27 rfl rfl rfl rfl rfl (op_index (i := 0) rfl te_31 rfl (.seq _ _) rfl rfl (by first | rfl | assumption) ?_)) | (refine AOps.gt 27 rfl rfl rfl rfl rfl (op_index (i := 1) rfl te_31 rfl (.seq _ _) rfl rfl (by first | rfl | assumption) ?_)) | (refine AOps.gt 27 rfl rfl rfl rfl rfl (op_index rfl te_31 rfl (.own _ _ _) rfl rfl (hgr) ?_)) | (refine AOps.gt 27 rfl rfl rfl rfl rfl (op_index (i := 0) rfl te_31 rfl (.own _ _ _) rfl rfl (by first | rfl | assumption) ?_)) | (refine AOps.gt 27 rfl rfl rfl rfl rfl (op_index (i := 1) rfl te_31 rfl (.own _ _ _) rfl rfl (by first | rfl | assumption) ?_)) | (refine AOps.gt 27 rfl rfl rfl rfl rfl (op_index (i := kk) rfl te_31 rfl (.seq _ _) rfl (by first | rfl | omega) (hgr) ?_)) | (refine AOps.gt 27 rfl rfl rfl rfl rfl (op_index (i := kk) rfl te_31 rfl (.own _ _ _) rfl (by first | rfl | omega) (hgr) ?_)) | (refine AOps.gt 27 rfl rfl rfl rfl rfl (op_index_arr rfl te_31 rfl rfl rfl (by omega) ?_))
            first | (refine AOps.gt 28 rfl rfl rfl rfl rfl (op_fieldAddr_m rfl tf_86_1 rfl ?_)) | (refine AOps.gt 28 rfl rfl rfl rfl rfl (op_fieldAddr_c rfl tf_86_1 rfl rfl ?_))
            first | (refine AOps.gt 29 rfl rfl rfl rfl rfl (op_load_m1 (i := 0) rfl ta_3 rfl rfl rfl ?_)) | (refine AOps.gt 29 rfl rfl rfl rfl rfl (op_load_m1 (i := 1) rfl ta_3 rfl rfl rfl ?_)) | (refine AOps.gt 29 rfl rfl rfl rfl rfl (op_load_m1 (i := 2) rfl ta_3 rfl rfl rfl ?_)) | (refine AOps.gt 29 rfl rfl rfl rfl rfl (op_load_m1 (i := 3) rfl ta_3 rfl rfl rfl ?_)) | (refine AOps.gt 29 rfl rfl rfl rfl rfl (op_load_m1 (i := 4) rfl ta_3 rfl rfl rfl ?_)) | (refine AOps.gt 29 rfl rfl rfl rfl rfl (op_load_m1 (i := 5) rfl ta_3 rfl rfl rfl ?_)) | (refine AOps.gt 29 rfl rfl rfl rfl rfl (op_load_m1 (i := 6) rfl ta_3 rfl rfl rfl ?_)) | (refine AOps.gt 29 rfl rfl rfl rfl rfl (op_load_m1 (i := 7) rfl ta_3 rfl rfl rfl ?_)) | (refine AOps.gt 29 rfl rfl rfl rfl rfl (op_load_m1 (i := 8) rfl ta_3 rfl rfl rfl ?_)) | (refine AOps.gt 29 rfl rfl rfl rfl rfl (op_load_m1 (i := 9) rfl ta_3 rfl rfl rfl ?_)) | (refine AOps.gt 29 rfl rfl rfl rfl rfl (op_load_c1 rfl ta_3 rfl rfl ?_))
            refine AOps.gt 30 rfl rfl rfl rfl rfl (op_neq rfl rfl rfl ?_); intro c30 h30
            refine AOps.st 31 rfl rfl rfl (op_pick rfl rfl rfl ?_)
            refine AOps.st 32 rfl rfl rfl (op_move rfl rfl ?_)
            rcases bool_split h30 with ⟨rfl, g30⟩ | ⟨rfl, g30⟩
            · skip
              refine AOps.gt 33 rfl rfl rfl rfl rfl (op_move rfl rfl ?_)
              first | (refine AOps.gt 34 rfl rfl rfl rfl rfl (op_nilCheck_m rfl rfl ?_)) | (refine AOps.gt 34 rfl rfl rfl rfl rfl (op_nilCheck_c rfl rfl ?_)) | (refine AOps.gt 34 rfl rfl rfl rfl rfl (op_nilCheck_f rfl rfl ?_))
              first | (refine AOps.gt 35 rfl rfl rfl rfl rfl (op_fieldAddr_m rfl tf_33_1 rfl ?_)) | (refine AOps.gt 35 rfl rfl rfl rfl rfl (op_fieldAddr_c rfl tf_33_1 rfl rfl ?_))
              first | (refine AOps.gt 36 rfl rfl rfl rfl rfl (op_load_m1 (i := 0) rfl ta_31 rfl rfl rfl ?_)) | (refine AOps.gt 36 rfl rfl rfl rfl rfl (op_load_m1 (i := 1) rfl ta_31 rfl rfl rfl ?_)) | (refine AOps.gt 36 rfl rfl rfl rfl rfl (op_load_m1 (i := 2) rfl ta_31 rfl rfl rfl ?_)) | (refine AOps.gt 36 rfl rfl rfl rfl rfl (op_load_m1 (i := 3) rfl ta_31 rfl rfl rfl ?_)) | (refine AOps.gt 36 rfl rfl rfl rfl rfl (op_load_m1 (i := 4) rfl ta_31 rfl rfl rfl ?_)) | (refine AOps.gt 36 rfl rfl rfl rfl rfl (op_load_m1 (i := 5) rfl ta_31 rfl rfl rfl ?_)) | (refine AOps.gt 36 rfl rfl rfl rfl rfl (op_load_m1 (i := 6) rfl ta_31 rfl rfl rfl ?_)) | (refine AOps.gt 36 rfl rfl rfl rfl rfl (op_load_m1 (i := 7) rfl ta_31 rfl rfl rfl ?_)) | (refine AOps.gt 36 rfl rfl rfl rfl rfl (op_load_m1 (i := 8) rfl ta_31 rfl rfl rfl ?_)) | (refine AOps.gt 36 rfl rfl rfl rfl rfl (op_load_m1 (i := 9) rfl ta_31 rfl rfl rfl ?_)) | (refine AOps.gt 36 rfl rfl rfl rfl rfl (op_load_c1 rfl ta_31 rfl rfl ?_))
              refine AOps.gt 37 rfl rfl rfl rfl rfl (op_move rfl rfl ?_)
              first | (refine AOps.gt 38 rfl rfl rfl rfl rfl (op_index rfl te_31 rfl (.seq _ _) rfl rfl (hgr) ?_)) | (refine AOps.gt 38 rfl rfl rfl rfl rfl (op_index (i := 0) rfl te_31 rfl (.seq _ _) rfl rfl (by first | rfl | assumption) ?_)) | (refine AOps.gt 38 rfl rfl rfl rfl rfl (op_index (i := 1) rfl te_31 rfl (.seq _ _) rfl rfl (by first | rfl | assumption) ?_)) | (refine AOps.gt 38 rfl rfl rfl rfl rfl (op_index rfl te_31 rfl (.own _ _ _) rfl rfl (hgr) ?_)) | (refine AOps.gt 38 rfl rfl rfl rfl rfl (op_index (i := 0) rfl te_31 rfl (.own _ _ _) rfl rfl (by first | rfl | assumption) ?_)) | (refine AOps.gt 38 rfl rfl rfl rfl rfl (op_index (i := 1) rfl te_31 rfl (.own _ _ _) rfl rfl (by first | rfl | assumption) ?_)) | (refine AOps.gt 38 rfl rfl rfl rfl rfl (op_index (i := kk) rfl te_31 rfl (.seq _ _) rfl (by first | rfl | omega) (hgr) ?_)) | (refine AOps.gt 38 rfl rfl rfl rfl rfl (op_index (i := kk) rfl te_31 rfl (.own _ _ _) rfl (by first | rfl | omega) (hgr) ?_)) | (refine AOps.gt 38 rfl rfl rfl rfl rfl (op_index_arr rfl te_31 rfl rfl rfl (by omega) ?_))
              first | (refine AOps.gt 39 rfl rfl rfl rfl rfl (op_fieldAddr_m rfl tf_86_2 rfl ?_)) | (refine AOps.gt 39 rfl rfl rfl rfl rfl (op_fieldAddr_c rfl tf_86_2 rfl rfl ?_))
              first | (refine AOps.gt 40 rfl rfl rfl rfl rfl (op_load_m1 (i := 0) rfl ta_3 rfl rfl rfl ?_)) | (refine AOps.gt 40 rfl rfl rfl rfl rfl (op_load_m1 (i := 1) rfl ta_3 rfl rfl rfl ?_)) | (refine AOps.gt 40 rfl rfl rfl rfl rfl (op_load_m1 (i := 2) rfl ta_3 rfl rfl rfl ?_)) | (refine AOps.gt 40 rfl rfl rfl rfl rfl (op_load_m1 (i := 3) rfl ta_3 rfl rfl rfl ?_)) | (refine AOps.gt 40 rfl rfl rfl rfl rfl (op_load_m1 (i := 4) rfl ta_3 rfl rfl rfl ?_)) | (refine AOps.gt 40 rfl rfl rfl rfl rfl (op_load_m1 (i := 5) rfl ta_3 rfl rfl rfl ?_)) | (refine AOps.gt 40 rfl rfl rfl rfl rfl (op_load_m1 (i := 6) rfl ta_3 rfl rfl rfl ?_)) | (refine AOps.gt 40 rfl rfl rfl rfl rfl (op_load_m1 (i := 7) rfl ta_3 rfl rfl rfl ?_)) | (refine AOps.gt 40 rfl rfl rfl rfl rfl (op_load_m1 (i := 8) rfl ta_3 rfl rfl rfl ?_)) | (refine AOps.gt 40 rfl rfl rfl rfl rfl (op_load_m1 (i := 9) rfl ta_3 rfl rfl rfl ?_)) | (refine AOps.gt 40 rfl rfl rfl rfl rfl (op_load_c1 rfl ta_3 rfl rfl ?_))
              refine AOps.gt 41 rfl rfl rfl rfl rfl (op_neq rfl rfl rfl ?_); intro c41 h41
              refine AOps.st 42 rfl rfl rfl (op_pick rfl rfl rfl ?_)
              refine AOps.nil ?_
              refine BoolQ.mk rfl ?_ (by repeat' (first | exact SLe.wo _ _ | exact SLe.refl _ | refine SLe.fresh rfl ?_)) (by first | exact MLe.none _ | exact MLe.refl _ | (repeat' (first | exact MLe.nil | exact MLe.refl _ | refine MLe.cons _ ?_ | refine MLe.drop _ ?_)))
              first | (simp_all; done) | (simp_all; omega)
            · skip
              refine AOps.gf 33 rfl rfl rfl rfl rfl ?_
              refine AOps.gf 34 rfl rfl rfl rfl rfl ?_
              refine AOps.gf 35 rfl rfl rfl rfl rfl ?_
              refine AOps.gf 36 rfl rfl rfl rfl rfl ?_
              refine AOps.gf 37 rfl rfl rfl rfl rfl ?_
              refine AOps.gf 38 rfl rfl rfl rfl rfl ?_
              refine AOps.gf 39 rfl rfl rfl rfl rfl ?_
              refine AOps.gf 40 rfl rfl rfl rfl rfl ?_
              refine AOps.gf 41 rfl rfl rfl rfl rfl ?_
              refine AOps.st 42 rfl rfl rfl (op_pick rfl rfl rfl ?_)
              refine AOps.nil ?_
              refine BoolQ.mk rfl ?_ (by repeat' (first | exact SLe.wo _ _ | exact SLe.refl _ | refine SLe.fresh rfl ?_)) (by first | exact MLe.none _ | exact MLe.refl _ | (repeat' (first | exact MLe.nil | exact MLe.refl _ | refine MLe.cons _ ?_ | refine MLe.drop _ ?_)))
              first | (simp_all; done) | (simp_all; omega)
          · skip
            refine AOps.gf 22 rfl rfl rfl rfl rfl ?_
            refine AOps.gf 23 rfl rfl rfl rfl rfl ?_
            refine AOps.gf 24 rfl rfl rfl rfl rfl ?_
            refine AOps.gf 25 rfl rfl rfl rfl rfl ?_
            refine AOps.gf 26 rfl rfl rfl rfl rfl ?_
            refine AOps.gf 27 rfl rfl rfl rfl rfl ?_
            refine AOps.gf 28 rfl rfl rfl rfl rfl ?_
            refine AOps.gf 29 rfl rfl rfl rfl rfl ?_
            refine AOps.gf 30 rfl rfl rfl rfl rfl ?_
            refine AOps.st 31 rfl rfl rfl (op_pick rfl rfl rfl ?_)
            refine AOps.st 32 rfl rfl rfl (op_move rfl rfl ?_)
            refine AOps.gf 33 rfl rfl rfl rfl rfl ?_
            refine AOps.gf 34 rfl rfl rfl rfl rfl ?_
            refine AOps.gf 35 rfl rfl rfl rfl rfl ?_
            refine AOps.gf 36 rfl rfl rfl rfl rfl ?_
            refine AOps.gf 37 rfl rfl rfl rfl rfl ?_
            refine AOps.gf 38 rfl rfl rfl rfl rfl ?_
            refine AOps.gf 39 rfl rfl rfl rfl rfl ?_
            refine AOps.gf 40 rfl rfl rfl rfl rfl ?_
            refine AOps.gf 41 rfl rfl rfl rfl rfl ?_
            refine AOps.st 42 rfl rfl rfl (op_pick rfl rfl rfl ?_)
            refine AOps.nil ?_
            refine BoolQ.mk rfl ?_ (by repeat' (first | exact SLe.wo _ _ | exact SLe.refl _ | refine SLe.fresh rfl ?_)) (by first | exact MLe.none _ | exact MLe.refl _ | (repeat' (first | exact MLe.nil | exact MLe.refl _ | refine MLe.cons _ ?_ | refine MLe.drop _ ?_)))
            first | (simp_all; done) | (simp_all; omega)
        intro c42 h42
        refine go_code ?_
        rcases bool_split h42 with ⟨rfl, g42⟩ | ⟨rfl, g42⟩
        · refine c_cond_f rfl ?_
          refine c_skip ?_
          refine go_code ?_
          refine c_seq ?_
          refine c_region ?_
          refine AOps.st 43 rfl rfl rfl (op_move rfl rfl ?_)
          first | (refine AOps.st 44 rfl rfl rfl (op_nilCheck_m rfl rfl ?_)) | (refine AOps.st 44 rfl rfl rfl (op_nilCheck_c rfl rfl ?_)) | (refine AOps.st 44 rfl rfl rfl (op_nilCheck_f rfl rfl ?_))
          first | (refine AOps.st 45 rfl rfl rfl (op_fieldAddr_m rfl tf_33_1 rfl ?_)) | (refine AOps.st 45 rfl rfl rfl (op_fieldAddr_c rfl tf_33_1 rfl rfl ?_))
          first | (refine AOps.st 46 rfl rfl rfl (op_load_m1 (i := 0) rfl ta_31 rfl rfl rfl ?_)) | (refine AOps.st 46 rfl rfl rfl (op_load_m1 (i := 1) rfl ta_31 rfl rfl rfl ?_)) | (refine AOps.st 46 rfl rfl rfl (op_load_m1 (i := 2) rfl ta_31 rfl rfl rfl ?_)) | (refine AOps.st 46 rfl rfl rfl (op_load_m1 (i := 3) rfl ta_31 rfl rfl rfl ?_)) | (refine AOps.st 46 rfl rfl rfl (op_load_m1 (i := 4) rfl ta_31 rfl rfl rfl ?_)) | (refine AOps.st 46 rfl rfl rfl (op_load_m1 (i := 5) rfl ta_31 rfl rfl rfl ?_)) | (refine AOps.st 46 rfl rfl rfl (op_load_m1 (i := 6) rfl ta_31 rfl rfl rfl ?_)) | (refine AOps.st 46 rfl rfl rfl (op_load_m1 (i := 7) rfl ta_31 rfl rfl rfl ?_)) | (refine AOps.st 46 rfl rfl rfl (op_load_m1 (i := 8) rfl ta_31 rfl rfl rfl ?_)) | (refine AOps.st 46 rfl rfl rfl (op_load_m1 (i := 9) rfl ta_31 rfl rfl rfl ?_)) | (refine AOps.st 46 rfl rfl rfl (op_load_c1 rfl ta_31 rfl rfl ?_))
          refine AOps.st 47 rfl rfl rfl (op_move rfl rfl ?_)
          first | (refine AOps.st 48 rfl rfl rfl (op_index rfl te_31 rfl (.seq _ _) rfl rfl (hgr) ?_)) | (refine AOps.st 48 rfl rfl rfl (op_index (i := 0) rfl te_31 rfl (.seq _ _) rfl rfl (by first | rfl | assumption) ?_)) | (refine AOps.st 48 rfl rfl rfl (op_index (i := 1) rfl te_31 rfl (.seq _ _) rfl rfl (by first | rfl | assumption) ?_)) | (refine AOps.st 48 rfl rfl rfl (op_index rfl te_31 rfl (.own _ _ _) rfl rfl (hgr) ?_)) | (refine AOps.st 48 rfl rfl rfl (op_index (i := 0) rfl te_31 rfl (.own _ _ _) rfl rfl (by first | rfl | assumption) ?_)) | (refine AOps.st 48 rfl rfl rfl (op_index (i := 1) rfl te_31 rfl (.own _ _ _) rfl rfl (by first | rfl | assumption) ?_)) | (refine AOps.st 48 rfl rfl rfl (op_index (i := kk) rfl te_31 rfl (.seq _ _) rfl (by first | rfl | omega) (hgr) ?_)) | (refine AOps.st 48 rfl rfl rfl (op_index (i := kk) rfl te_31 rfl (.own _ _ _) rfl (by first | rfl | omega) (hgr) ?_)) | (refine AOps.st 48 rfl rfl rfl (op_index_arr rfl te_31 rfl rfl rfl (by omega) ?_))
          first | (refine AOps.st 49 rfl rfl rfl (op_fieldAddr_m rfl tf_86_3 rfl ?_)) | (refine AOps.st 49 rfl rfl rfl (op_fieldAddr_c rfl tf_86_3 rfl rfl ?_))
          first | (refine AOps.st 50 rfl rfl rfl (op_load_m1 (i := 0) rfl ta_34 rfl rfl rfl ?_)) | (refine AOps.st 50 rfl rfl rfl (op_load_m1 (i := 1) rfl ta_34 rfl rfl rfl ?_)) | (refine AOps.st 50 rfl rfl rfl (op_load_m1 (i := 2) rfl ta_34 rfl rfl rfl ?_)) | (refine AOps.st 50 rfl rfl rfl (op_load_m1 (i := 3) rfl ta_34 rfl rfl rfl ?_)) | (refine AOps.st 50 rfl rfl rfl (op_load_m1 (i := 4) rfl ta_34 rfl rfl rfl ?_)) | (refine AOps.st 50 rfl rfl rfl (op_load_m1 (i := 5) rfl ta_34 rfl rfl rfl ?_)) | (refine AOps.st 50 rfl rfl rfl (op_load_m1 (i := 6) rfl ta_34 rfl rfl rfl ?_)) | (refine AOps.st 50 rfl rfl rfl (op_load_m1 (i := 7) rfl ta_34 rfl rfl rfl ?_)) | (refine AOps.st 50 rfl rfl rfl (op_load_m1 (i := 8) rfl ta_34 rfl rfl rfl ?_)) | (refine AOps.st 50 rfl rfl rfl (op_load_m1 (i := 9) rfl ta_34 rfl rfl rfl ?_)) | (refine AOps.st 50 rfl rfl rfl (op_load_c1 rfl ta_34 rfl rfl ?_))
          refine AOps.st 7 rfl rfl rfl (op_assign rfl rfl ?_)
          refine AOps.nil ?_
          refine go_code ?_
          refine c_seq ?_
          refine c_region ?_
          refine AOps.st 8 rfl rfl rfl (op_assign rfl rfl ?_)
          refine AOps.nil ?_
          refine go_code ?_
          refine c_seq ?_
          refine c_seq ?_
          refine ACode.ownNil (t := 8) 5 1 rfl ?_
          refine c_region ?_
          refine AOps.st 9 rfl rfl rfl (op_assign rfl rfl ?_)
          refine AOps.nil ?_
          refine go_code ?_
          refine c_block ?_
          apply c_loopk [0, 1, 2, 3, 6, 8, 9, 10, 11, 16, 17, 18, 19, 20, 21, 22, 23, 24, 25, 26, 27, 28, 29, 30, 31, 32, 33, 34, 35, 36, 37, 38, 39, 40, 41, 42, 43, 44, 45, 46, 47, 48, 49, 50, 51, 52, 53, 54, 55, 56, 57, 58, 59, 60, 61, 62, 63, 64, 65, 66, 67, 68, 69, 70, 71, 72] (σ := Nat × Value) (fun zz => match zz with | (i, u) => [(8, .own u 1 (u8e (bytesOf ls (8 * i)))), (9, .val (.int .i64 (i + 1)))]) (fun zz => match zz with | (i, u) => [.own 5 1 u, .loc br [.val (.int .i64 sz), .own u0 4 (oRows 1 H)], .own 86 4 u0]) (fun zz => match zz with | (i, u) => i ≤ L) (fun zz => match zz with | (i, u) => L - i) ((0, .slice none 0 0))
          · repeat' (first | exact Drops.nil | apply Drops.keep rfl | apply Drops.skip rfl)
          · exact Nat.zero_le _
          · exact (by repeat' (first | exact SLe.nil _ | refine SLe.cons rfl ?_ ?_ | exact Le.refl _ | exact Le.own _ _ _ | exact Le.nil _ | (refine Le.own_eq ?_; rfl) | (refine Le.own_seq ?_; rfl) | (refine Le.seq_eq ?_; rfl)))
          · exact (by first | exact MLe.none _ | exact MLe.refl _ | (repeat' (first | exact MLe.nil | exact MLe.refl _ | refine MLe.cons _ ?_ | refine MLe.drop _ ?_)))
          rintro ⟨i, u⟩ hI
          try dsimp only [List.cons_append, List.nil_append] at hI ⊢
          refine c_seq ?_
          refine c_seq ?_
          refine c_region ?_
          refine AOps.st 51 rfl rfl rfl (op_move rfl rfl ?_)
          refine AOps.st 52 rfl rfl rfl (op_move rfl rfl ?_)
          first | (refine AOps.st 53 rfl rfl rfl (op_len rfl tu_34 rfl (.seq _ _) (fun n53 => ?_))) | (refine AOps.st 53 rfl rfl rfl (op_len rfl tu_34 rfl (.own _ _ _) (fun n53 => ?_))) | (refine AOps.st 53 rfl rfl rfl (op_len rfl tu_34 rfl (.nil 0) (fun n53 => ?_))) | (refine AOps.st 53 rfl rfl rfl (op_len_arr rfl tu_34 rfl ?_))
          refine AOps.st 54 rfl rfl rfl (op_lss rfl rfl rfl ?_); intro c54 h54
          refine AOps.nil ?_
          refine go_code ?_
          rcases bool_split h54 with ⟨rfl, g54⟩ | ⟨rfl, g54⟩
          · refine c_cond_f rfl ?_
            refine c_exit ?_
            refine x_code ?_
            refine x_lp ?_
            refine x_here ?_
            refine go_code ?_
            refine c_seq ?_
            refine c_seq ?_
            obtain rfl : i = L := by omega
            have hbl : (u8e (bytesOf ls (8 * i))).length = 8 * i := by rw [u8e_len, bytesOf_len]
            refine c_region ?_
            refine AOps.st 12 rfl rfl rfl (op_assign rfl rfl ?_)
            refine AOps.nil ?_
            refine go_code ?_
            refine c_block ?_
            apply c_loopkm [0, 1, 2, 3, 4, 5, 6, 9, 10, 11, 12, 13, 14, 15, 16, 17, 18, 19, 20, 21, 22, 23, 24, 25, 26, 27, 28, 29, 30, 31, 32, 33, 34, 35, 36, 37, 38, 39, 40, 41, 42, 43, 44, 45, 46, 47, 48, 49, 50, 51, 52, 53, 54, 55, 56, 57, 58, 59, 60, 61, 62, 63, 64, 65, 66, 67, 68, 69, 70, 71, 72, 73, 74, 75, 76, 77, 78, 79, 80, 81, 82, 83, 84, 85, 86, 87, 88, 89, 90, 91, 92, 93, 94, 95, 96, 97, 98, 99, 100, 101, 102, 103, 104, 105, 106, 107, 108, 109, 110, 111, 112, 113] (σ := Nat) (fun zz => match zz with | n => [(12, .val (.int .i64 n))]) (fun zz => match zz with | n => n ≤ 8 * i + 1 ∧ ∀ m < n, intW m ≠ p) (fun zz => match zz with | n => 8 * i + 1 - n) (0)
            · repeat' (first | exact Drops.nil | apply Drops.keep rfl | apply Drops.skip rfl)
            · exact ⟨by omega, fun m hm => by omega⟩
            · exact (by repeat' (first | exact SLe.nil _ | refine SLe.cons rfl ?_ ?_ | exact Le.refl _ | exact Le.own _ _ _ | exact Le.nil _))
            rintro n hI
            try dsimp only [List.cons_append, List.nil_append] at hI ⊢
            obtain ⟨hn, hne⟩ := hI
            refine c_seq ?_
            refine c_seq ?_
            refine c_region ?_
            refine AOps.st 73 rfl rfl rfl (op_move rfl rfl ?_)
            refine AOps.st 74 rfl rfl rfl (op_move rfl rfl ?_)
            first | (refine AOps.st 75 rfl rfl rfl (op_len rfl tu_105 rfl (.seq _ _) (fun n75 => ?_))) | (refine AOps.st 75 rfl rfl rfl (op_len rfl tu_105 rfl (.own _ _ _) (fun n75 => ?_))) | (refine AOps.st 75 rfl rfl rfl (op_len rfl tu_105 rfl (.nil 0) (fun n75 => ?_))) | (refine AOps.st 75 rfl rfl rfl (op_len_arr rfl tu_105 rfl ?_))
            refine AOps.st 76 rfl rfl rfl (op_leq rfl rfl rfl ?_); intro c76 h76
            refine AOps.nil ?_
            refine go_code ?_
            rcases bool_split h76 with ⟨rfl, g76⟩ | ⟨rfl, g76⟩
            · refine c_cond_f rfl ?_
              refine c_exit ?_
              refine x_code ?_
              refine x_lp ?_
              refine x_here ?_
              refine go_code ?_
              refine c_seq ?_
              have hq := hnot (fun m hm hwm => absurd hwm (hne m (by omega)))
              refine c_region ?_
              refine AOps.st 4 rfl rfl rfl (op_assign rfl rfl ?_)
              refine AOps.st 5 rfl rfl rfl (op_assign rfl rfl ?_)
              refine AOps.nil ?_
              refine go_code ?_
              refine c_ret ?_
              exact out_tt rfl rfl rfl (Le.tup (Les.cons (Le.seqt (by rw [hq]; rfl)) (Les.cons (Le.beq (by rw [hq]; rfl)) (Les.refl _)))) (by first | exact MLe.none _ | exact MLe.refl _ | (repeat' (first | exact MLe.nil | exact MLe.refl _ | refine MLe.cons _ ?_ | refine MLe.drop _ ?_))) ⟨rfl, rfl⟩
            · refine c_cond_t rfl ?_
              refine c_skip ?_
              refine go_code ?_
              refine c_seq ?_
              refine c_block ?_
              refine c_seq ?_
              refine c_drawn tmix rfl ?_
              refine DOps.st 79 rfl rfl (op_move rfl rfl ⟨rfl, rfl⟩) ?_
              refine DOps.st 80 rfl rfl (op_callp (xs := [.tmp 79]) rfl rfl (rInt_p n) (by first | exact Les.refl _ | (repeat' (first | exact Les.refl _ | refine Les.cons ?_ ?_ | exact Le.refl _ | exact Le.own _ _ _ | exact Le.nil _ | refine Le.agg ?_))) ⟨rfl, rfl⟩) ?_
              refine DOps.st 81 rfl rfl (op_move rfl rfl ⟨rfl, rfl⟩) ?_
              first | (refine DOps.st 82 rfl rfl (op_index rfl te_34 rfl (.seq _ _) rfl rfl (rfl) ⟨rfl, rfl⟩) ?_) | (refine DOps.st 82 rfl rfl (op_index (i := 0) rfl te_34 rfl (.seq _ _) rfl rfl (by first | rfl | assumption) ⟨rfl, rfl⟩) ?_) | (refine DOps.st 82 rfl rfl (op_index (i := 1) rfl te_34 rfl (.seq _ _) rfl rfl (by first | rfl | assumption) ⟨rfl, rfl⟩) ?_) | (refine DOps.st 82 rfl rfl (op_index rfl te_34 rfl (.own _ _ _) rfl rfl (rfl) ⟨rfl, rfl⟩) ?_) | (refine DOps.st 82 rfl rfl (op_index (i := 0) rfl te_34 rfl (.own _ _ _) rfl rfl (by first | rfl | assumption) ⟨rfl, rfl⟩) ?_) | (refine DOps.st 82 rfl rfl (op_index (i := 1) rfl te_34 rfl (.own _ _ _) rfl rfl (by first | rfl | assumption) ⟨rfl, rfl⟩) ?_) | (refine DOps.st 82 rfl rfl (op_index (i := 0) rfl te_34 rfl (.seq _ _) rfl (by first | rfl | omega) (rfl) ⟨rfl, rfl⟩) ?_) | (refine DOps.st 82 rfl rfl (op_index (i := 0) rfl te_34 rfl (.own _ _ _) rfl (by first | rfl | omega) (rfl) ⟨rfl, rfl⟩) ?_) | (refine DOps.st 82 rfl rfl (op_index_arr rfl te_34 rfl rfl rfl (by omega) ⟨rfl, rfl⟩) ?_)
              first | (refine DOps.st 83 rfl rfl (op_load_m1 (i := 0) rfl ta_42 rfl rfl rfl ⟨rfl, rfl⟩) ?_) | (refine DOps.st 83 rfl rfl (op_load_m1 (i := 1) rfl ta_42 rfl rfl rfl ⟨rfl, rfl⟩) ?_) | (refine DOps.st 83 rfl rfl (op_load_m1 (i := 2) rfl ta_42 rfl rfl rfl ⟨rfl, rfl⟩) ?_) | (refine DOps.st 83 rfl rfl (op_load_m1 (i := 3) rfl ta_42 rfl rfl rfl ⟨rfl, rfl⟩) ?_) | (refine DOps.st 83 rfl rfl (op_load_m1 (i := 4) rfl ta_42 rfl rfl rfl ⟨rfl, rfl⟩) ?_) | (refine DOps.st 83 rfl rfl (op_load_m1 (i := 5) rfl ta_42 rfl rfl rfl ⟨rfl, rfl⟩) ?_) | (refine DOps.st 83 rfl rfl (op_load_m1 (i := 6) rfl ta_42 rfl rfl rfl ⟨rfl, rfl⟩) ?_) | (refine DOps.st 83 rfl rfl (op_load_m1 (i := 7) rfl ta_42 rfl rfl rfl ⟨rfl, rfl⟩) ?_) | (refine DOps.st 83 rfl rfl (op_load_m1 (i := 8) rfl ta_42 rfl rfl rfl ⟨rfl, rfl⟩) ?_) | (refine DOps.st 83 rfl rfl (op_load_m1 (i := 9) rfl ta_42 rfl rfl rfl ⟨rfl, rfl⟩) ?_) | (refine DOps.st 83 rfl rfl (op_load_c1 rfl ta_42 rfl rfl ⟨rfl, rfl⟩) ?_)
              refine DOps.cm 84 rfl rfl (fun _ q => op_eql rfl rfl rfl q) ?_; intro c84 h84
              show AGo _ _ _ _ _ _ _
              refine go_code ?_
              rcases bool_split h84 with ⟨rfl, g84⟩ | ⟨rfl, g84⟩
              · refine c_cond_f rfl ?_
                refine c_skip ?_
                refine go_blk ?_
                refine go_code ?_
                refine c_region ?_
                refine AOps.st 77 rfl rfl rfl (op_move rfl rfl ?_)
                first | (refine AOps.st 78 rfl rfl rfl (op_add rfl rfl rfl (IntWalk.i64_in _ (by omega)) ?_)) | (refine AOps.st 78 rfl rfl rfl (op_add rfl rfl rfl rfl ?_))
                refine AOps.st 12 rfl rfl rfl (op_assign rfl rfl ?_)
                refine AOps.nil ?_
                refine go_lp ?_
                refine ⟨n + 1, ⟨by omega, fun m hm => ?_⟩, by show 8 * i + 1 - (n + 1) < 8 * i + 1 - n; omega, (by repeat' (first | exact SLe.nil _ | refine SLe.cons rfl ?_ ?_ | exact Le.refl _ | exact Le.own _ _ _ | exact Le.nil _)), (by first | exact MLe.none _ | exact MLe.refl _ | (repeat' (first | exact MLe.nil | exact MLe.refl _ | refine MLe.cons _ ?_ | refine MLe.drop _ ?_)))⟩
                rcases Nat.lt_or_ge m n with q | q
                · exact hne m q
                · obtain rfl : m = n := by omega
                  omega
              · refine c_cond_t rfl ?_
                refine c_seq ?_
                have hwn : intW n = p := by omega
                have hcut : (u8e (bytesOf ls (8 * i))).take n = bts ((bytesOf ls n).map fun k : Nat => (k : Int)) := by rw [← u8e_bts, u8e, ← List.map_take, bytesOf_take ls n (8 * i) (by omega)]; rfl
                have hn8 : n ≤ 8 * i := by omega
                obtain ⟨pk, hpk⟩ : ∃ pk, packL (bytesOf ls n) = pk := ⟨_, rfl⟩
                have hbn : bytesN (strN (bytesOf ls n)) = bytesOf ls n := bytesN_strN _ (fun x hx => by
                  obtain ⟨i, _, rfl⟩ := List.mem_map.1 hx
                  exact byteAt_lt _ _)
                have hye : pk = ls → gT = some (strN (bytesOf ls n)) := fun q => hyes n (by omega) hwn (by rw [hpk, q])
                have hno : pk ≠ ls → gT = none := fun q => hnot (fun m hm hwm => by
                  obtain rfl : m = n := intW_inj (by omega) (by omega) (by rw [hwm, hwn])
                  rw [hpk]; exact q)
                have hPC := (rPack_o (strN (bytesOf ls n)) (by rw [strN_size, bytesOf_len]; omega)).pure
                rw [hbn, hpk] at hPC
                have hpkl : (pk.map ivN).length = pk.length := by simp
                refine c_region ?_
                refine AOps.st 85 rfl rfl rfl (op_move rfl rfl ?_)
                refine AOps.st 86 rfl rfl rfl (op_move rfl rfl ?_)
                first | (refine AOps.st 87 rfl rfl rfl (op_cuth rfl te_105 rfl (.seq _ _) rfl rfl (by omega) ?_)) | (refine AOps.st 87 rfl rfl rfl (op_cuth rfl te_105 rfl (.own _ _ _) rfl rfl (by omega) ?_))
                refine AOps.st 88 rfl rfl rfl (op_bytestra (xs := (bytesOf ls n).map fun k : Nat => (k : Int)) rfl tu_105 tu_5 tu_9 rfl (by rw [← hcut]; exact .seq 1 _) ?_)
                refine AOps.st 13 rfl rfl rfl (op_assign rfl rfl ?_)
                refine AOps.nil ?_
                refine go_code ?_
                refine c_seq ?_
                refine c_region ?_
                refine AOps.st 89 rfl rfl rfl (op_move rfl rfl ?_)
                refine AOps.st 90 rfl rfl rfl (op_callp (xs := [.tmp 89]) rfl rfl (hPC) (by first | exact Les.refl _ | (repeat' (first | exact Les.refl _ | refine Les.cons ?_ ?_ | exact Le.refl _ | exact Le.own _ _ _ | exact Le.nil _ | refine Le.agg ?_))) ?_)
                refine AOps.st 14 rfl rfl rfl (op_assign rfl rfl ?_)
                refine AOps.nil ?_
                refine go_code ?_
                refine c_seq ?_
                refine c_seq ?_
                refine c_region ?_
                refine AOps.st 91 rfl rfl rfl (op_move rfl rfl ?_)
                first | (refine AOps.st 92 rfl rfl rfl (op_len rfl tu_34 rfl (.seq _ _) (fun n92 => ?_))) | (refine AOps.st 92 rfl rfl rfl (op_len rfl tu_34 rfl (.own _ _ _) (fun n92 => ?_))) | (refine AOps.st 92 rfl rfl rfl (op_len rfl tu_34 rfl (.nil 0) (fun n92 => ?_))) | (refine AOps.st 92 rfl rfl rfl (op_len_arr rfl tu_34 rfl ?_))
                refine AOps.st 93 rfl rfl rfl (op_move rfl rfl ?_)
                first | (refine AOps.st 94 rfl rfl rfl (op_len rfl tu_34 rfl (.seq _ _) (fun n94 => ?_))) | (refine AOps.st 94 rfl rfl rfl (op_len rfl tu_34 rfl (.own _ _ _) (fun n94 => ?_))) | (refine AOps.st 94 rfl rfl rfl (op_len rfl tu_34 rfl (.nil 0) (fun n94 => ?_))) | (refine AOps.st 94 rfl rfl rfl (op_len_arr rfl tu_34 rfl ?_))
                first | (refine AOps.st 95 rfl rfl rfl (op_sub rfl rfl rfl (IntWalk.i64_in _ (by omega)) ?_)) | (refine AOps.st 95 rfl rfl rfl (op_sub rfl rfl rfl rfl ?_))
                refine AOps.st 96 rfl rfl rfl (op_neq rfl rfl rfl ?_); intro c96 h96
                refine AOps.nil ?_
                refine go_code ?_
                rcases bool_split h96 with ⟨rfl, g96⟩ | ⟨rfl, g96⟩
                · refine c_cond_f rfl ?_
                  refine c_skip ?_
                  refine go_code ?_
                  refine c_seq ?_
                  refine c_seq ?_
                  refine c_region ?_
                  refine AOps.st 15 rfl rfl rfl (op_assign rfl rfl ?_)
                  refine AOps.nil ?_
                  refine go_code ?_
                  refine c_block ?_
                  apply c_loopkm [0, 1, 2, 3, 4, 5, 6, 9, 10, 11, 15, 16, 17, 18, 19, 20, 21, 22, 23, 24, 25, 26, 27, 28, 29, 30, 31, 32, 33, 34, 35, 36, 37, 38, 39, 40, 41, 42, 43, 44, 45, 46, 47, 48, 49, 50, 51, 52, 53, 54, 55, 56, 57, 58, 59, 60, 61, 62, 63, 64, 65, 66, 67, 68, 69, 70, 71, 72, 97, 98, 99, 100, 101, 102, 103, 104, 105, 106, 107, 108, 109, 110, 111, 112] (σ := Nat) (fun zz => match zz with | k => [(15, .val (.int .i64 k))]) (fun zz => match zz with | k => k ≤ pk.length ∧ ∀ m < k, pk[m]? = ls[m]?) (fun zz => match zz with | k => pk.length - k) (0)
                  · repeat' (first | exact Drops.nil | apply Drops.keep rfl | apply Drops.skip rfl)
                  · exact ⟨by omega, fun m hm => by omega⟩
                  · exact (by repeat' (first | exact SLe.nil _ | refine SLe.cons rfl ?_ ?_ | exact Le.refl _ | exact Le.own _ _ _ | exact Le.nil _))
                  rintro k hI
                  try dsimp only [List.cons_append, List.nil_append] at hI ⊢
                  obtain ⟨hkk, hke⟩ := hI
                  refine c_seq ?_
                  refine c_seq ?_
                  refine c_region ?_
                  refine AOps.st 97 rfl rfl rfl (op_move rfl rfl ?_)
                  refine AOps.st 98 rfl rfl rfl (op_move rfl rfl ?_)
                  first | (refine AOps.st 99 rfl rfl rfl (op_len rfl tu_34 rfl (.seq _ _) (fun n99 => ?_))) | (refine AOps.st 99 rfl rfl rfl (op_len rfl tu_34 rfl (.own _ _ _) (fun n99 => ?_))) | (refine AOps.st 99 rfl rfl rfl (op_len rfl tu_34 rfl (.nil 0) (fun n99 => ?_))) | (refine AOps.st 99 rfl rfl rfl (op_len_arr rfl tu_34 rfl ?_))
                  refine AOps.st 100 rfl rfl rfl (op_lss rfl rfl rfl ?_); intro c100 h100
                  refine AOps.nil ?_
                  refine go_code ?_
                  rcases bool_split h100 with ⟨rfl, g100⟩ | ⟨rfl, g100⟩
                  · refine c_cond_f rfl ?_
                    refine c_exit ?_
                    refine x_code ?_
                    refine x_lp ?_
                    refine x_here ?_
                    refine go_code ?_
                    refine c_seq ?_
                    have hq := hye (by
                      apply List.ext_getElem?
                      intro m
                      rcases Nat.lt_or_ge m k with q | q
                      · exact hke m q
                      · rw [List.getElem?_eq_none (by omega), List.getElem?_eq_none (by omega)])
                    refine c_region ?_
                    refine AOps.st 113 rfl rfl rfl (op_move rfl rfl ?_)
                    refine AOps.st 4 rfl rfl rfl (op_assign rfl rfl ?_)
                    refine AOps.st 5 rfl rfl rfl (op_assign rfl rfl ?_)
                    refine AOps.nil ?_
                    refine go_code ?_
                    refine c_ret ?_
                    exact out_tt rfl rfl rfl (Le.tup (Les.cons (Le.seqt (by rw [hq]; rfl)) (Les.cons (Le.beq (by rw [hq]; rfl)) (Les.refl _)))) (by first | exact MLe.none _ | exact MLe.refl _ | (repeat' (first | exact MLe.nil | exact MLe.refl _ | refine MLe.cons _ ?_ | refine MLe.drop _ ?_))) ⟨rfl, rfl⟩
                  · refine c_cond_t rfl ?_
                    refine c_skip ?_
                    refine go_code ?_
                    refine c_seq ?_
                    refine c_block ?_
                    refine c_seq ?_
                    obtain ⟨x, hx⟩ := getk (l := pk) (i := k) (by omega)
                    obtain ⟨z, hz⟩ := getk (l := ls) (i := k) (by omega)
                    have hxg : (pk.map ivN)[k]? = some (ivN x) := by rw [List.getElem?_map, hx]; rfl
                    have hzg := hgx k z hz
                    refine c_drawn tmix rfl ?_
                    refine DOps.st 103 rfl rfl (op_move rfl rfl ⟨rfl, rfl⟩) ?_
                    refine DOps.st 104 rfl rfl (op_move rfl rfl ⟨rfl, rfl⟩) ?_
                    first | (refine DOps.st 105 rfl rfl (op_index rfl te_34 rfl (.seq _ _) rfl rfl (by first | exact hxg | exact hzg) ⟨rfl, rfl⟩) ?_) | (refine DOps.st 105 rfl rfl (op_index (i := 0) rfl te_34 rfl (.seq _ _) rfl rfl (by first | rfl | assumption) ⟨rfl, rfl⟩) ?_) | (refine DOps.st 105 rfl rfl (op_index (i := 1) rfl te_34 rfl (.seq _ _) rfl rfl (by first | rfl | assumption) ⟨rfl, rfl⟩) ?_) | (refine DOps.st 105 rfl rfl (op_index rfl te_34 rfl (.own _ _ _) rfl rfl (by first | exact hxg | exact hzg) ⟨rfl, rfl⟩) ?_) | (refine DOps.st 105 rfl rfl (op_index (i := 0) rfl te_34 rfl (.own _ _ _) rfl rfl (by first | rfl | assumption) ⟨rfl, rfl⟩) ?_) | (refine DOps.st 105 rfl rfl (op_index (i := 1) rfl te_34 rfl (.own _ _ _) rfl rfl (by first | rfl | assumption) ⟨rfl, rfl⟩) ?_) | (refine DOps.st 105 rfl rfl (op_index (i := k) rfl te_34 rfl (.seq _ _) rfl (by first | rfl | omega) (by first | exact hxg | exact hzg) ⟨rfl, rfl⟩) ?_) | (refine DOps.st 105 rfl rfl (op_index (i := k + 1) rfl te_34 rfl (.seq _ _) rfl (by first | rfl | omega) (by first | exact hxg | exact hzg) ⟨rfl, rfl⟩) ?_) | (refine DOps.st 105 rfl rfl (op_index (i := k) rfl te_34 rfl (.own _ _ _) rfl (by first | rfl | omega) (by first | exact hxg | exact hzg) ⟨rfl, rfl⟩) ?_) | (refine DOps.st 105 rfl rfl (op_index (i := k + 1) rfl te_34 rfl (.own _ _ _) rfl (by first | rfl | omega) (by first | exact hxg | exact hzg) ⟨rfl, rfl⟩) ?_) | (refine DOps.st 105 rfl rfl (op_index_arr rfl te_34 rfl rfl rfl (by omega) ⟨rfl, rfl⟩) ?_)
                    first | (refine DOps.st 106 rfl rfl (op_load_m1 (i := 0) rfl ta_42 rfl rfl rfl ⟨rfl, rfl⟩) ?_) | (refine DOps.st 106 rfl rfl (op_load_m1 (i := 1) rfl ta_42 rfl rfl rfl ⟨rfl, rfl⟩) ?_) | (refine DOps.st 106 rfl rfl (op_load_m1 (i := 2) rfl ta_42 rfl rfl rfl ⟨rfl, rfl⟩) ?_) | (refine DOps.st 106 rfl rfl (op_load_m1 (i := 3) rfl ta_42 rfl rfl rfl ⟨rfl, rfl⟩) ?_) | (refine DOps.st 106 rfl rfl (op_load_m1 (i := 4) rfl ta_42 rfl rfl rfl ⟨rfl, rfl⟩) ?_) | (refine DOps.st 106 rfl rfl (op_load_m1 (i := 5) rfl ta_42 rfl rfl rfl ⟨rfl, rfl⟩) ?_) | (refine DOps.st 106 rfl rfl (op_load_m1 (i := 6) rfl ta_42 rfl rfl rfl ⟨rfl, rfl⟩) ?_) | (refine DOps.st 106 rfl rfl (op_load_m1 (i := 7) rfl ta_42 rfl rfl rfl ⟨rfl, rfl⟩) ?_) | (refine DOps.st 106 rfl rfl (op_load_m1 (i := 8) rfl ta_42 rfl rfl rfl ⟨rfl, rfl⟩) ?_) | (refine DOps.st 106 rfl rfl (op_load_m1 (i := 9) rfl ta_42 rfl rfl rfl ⟨rfl, rfl⟩) ?_) | (refine DOps.st 106 rfl rfl (op_load_c1 rfl ta_42 rfl rfl ⟨rfl, rfl⟩) ?_)
                    refine DOps.st 107 rfl rfl (op_move rfl rfl ⟨rfl, rfl⟩) ?_
                    refine DOps.st 108 rfl rfl (op_move rfl rfl ⟨rfl, rfl⟩) ?_
                    first | (refine DOps.st 109 rfl rfl (op_add rfl rfl rfl (IntWalk.i64_in _ (by omega)) ⟨rfl, rfl⟩) ?_) | (refine DOps.st 109 rfl rfl (op_add rfl rfl rfl rfl ⟨rfl, rfl⟩) ?_)
                    first | (refine DOps.st 110 rfl rfl (op_index rfl te_34 rfl (.seq _ _) rfl rfl (by first | exact hxg | exact hzg) ⟨rfl, rfl⟩) ?_) | (refine DOps.st 110 rfl rfl (op_index (i := 0) rfl te_34 rfl (.seq _ _) rfl rfl (by first | rfl | assumption) ⟨rfl, rfl⟩) ?_) | (refine DOps.st 110 rfl rfl (op_index (i := 1) rfl te_34 rfl (.seq _ _) rfl rfl (by first | rfl | assumption) ⟨rfl, rfl⟩) ?_) | (refine DOps.st 110 rfl rfl (op_index rfl te_34 rfl (.own _ _ _) rfl rfl (by first | exact hxg | exact hzg) ⟨rfl, rfl⟩) ?_) | (refine DOps.st 110 rfl rfl (op_index (i := 0) rfl te_34 rfl (.own _ _ _) rfl rfl (by first | rfl | assumption) ⟨rfl, rfl⟩) ?_) | (refine DOps.st 110 rfl rfl (op_index (i := 1) rfl te_34 rfl (.own _ _ _) rfl rfl (by first | rfl | assumption) ⟨rfl, rfl⟩) ?_) | (refine DOps.st 110 rfl rfl (op_index (i := k) rfl te_34 rfl (.seq _ _) rfl (by first | rfl | omega) (by first | exact hxg | exact hzg) ⟨rfl, rfl⟩) ?_) | (refine DOps.st 110 rfl rfl (op_index (i := k + 1) rfl te_34 rfl (.seq _ _) rfl (by first | rfl | omega) (by first | exact hxg | exact hzg) ⟨rfl, rfl⟩) ?_) | (refine DOps.st 110 rfl rfl (op_index (i := k) rfl te_34 rfl (.own _ _ _) rfl (by first | rfl | omega) (by first | exact hxg | exact hzg) ⟨rfl, rfl⟩) ?_) | (refine DOps.st 110 rfl rfl (op_index (i := k + 1) rfl te_34 rfl (.own _ _ _) rfl (by first | rfl | omega) (by first | exact hxg | exact hzg) ⟨rfl, rfl⟩) ?_) | (refine DOps.st 110 rfl rfl (op_index_arr rfl te_34 rfl rfl rfl (by omega) ⟨rfl, rfl⟩) ?_)
                    first | (refine DOps.st 111 rfl rfl (op_load_m1 (i := 0) rfl ta_42 rfl rfl rfl ⟨rfl, rfl⟩) ?_) | (refine DOps.st 111 rfl rfl (op_load_m1 (i := 1) rfl ta_42 rfl rfl rfl ⟨rfl, rfl⟩) ?_) | (refine DOps.st 111 rfl rfl (op_load_m1 (i := 2) rfl ta_42 rfl rfl rfl ⟨rfl, rfl⟩) ?_) | (refine DOps.st 111 rfl rfl (op_load_m1 (i := 3) rfl ta_42 rfl rfl rfl ⟨rfl, rfl⟩) ?_) | (refine DOps.st 111 rfl rfl (op_load_m1 (i := 4) rfl ta_42 rfl rfl rfl ⟨rfl, rfl⟩) ?_) | (refine DOps.st 111 rfl rfl (op_load_m1 (i := 5) rfl ta_42 rfl rfl rfl ⟨rfl, rfl⟩) ?_) | (refine DOps.st 111 rfl rfl (op_load_m1 (i := 6) rfl ta_42 rfl rfl rfl ⟨rfl, rfl⟩) ?_) | (refine DOps.st 111 rfl rfl (op_load_m1 (i := 7) rfl ta_42 rfl rfl rfl ⟨rfl, rfl⟩) ?_) | (refine DOps.st 111 rfl rfl (op_load_m1 (i := 8) rfl ta_42 rfl rfl rfl ⟨rfl, rfl⟩) ?_) | (refine DOps.st 111 rfl rfl (op_load_m1 (i := 9) rfl ta_42 rfl rfl rfl ⟨rfl, rfl⟩) ?_) | (refine DOps.st 111 rfl rfl (op_load_c1 rfl ta_42 rfl rfl ⟨rfl, rfl⟩) ?_)
                    refine DOps.cm 112 rfl rfl (fun _ q => op_neq rfl rfl rfl q) ?_; intro c112 h112
                    show AGo _ _ _ _ _ _ _
                    refine go_code ?_
                    rcases bool_split h112 with ⟨rfl, g112⟩ | ⟨rfl, g112⟩
                    · refine c_cond_f rfl ?_
                      refine c_skip ?_
                      refine go_blk ?_
                      refine go_code ?_
                      refine c_region ?_
                      refine AOps.st 101 rfl rfl rfl (op_move rfl rfl ?_)
                      first | (refine AOps.st 102 rfl rfl rfl (op_add rfl rfl rfl (IntWalk.i64_in _ (by omega)) ?_)) | (refine AOps.st 102 rfl rfl rfl (op_add rfl rfl rfl rfl ?_))
                      refine AOps.st 15 rfl rfl rfl (op_assign rfl rfl ?_)
                      refine AOps.nil ?_
                      refine go_lp ?_
                      refine ⟨k + 1, ⟨by have := get_lt hx; omega, fun m hm => ?_⟩, by have := get_lt hx; show pk.length - (k + 1) < pk.length - k; omega, (by repeat' (first | exact SLe.nil _ | refine SLe.cons rfl ?_ ?_ | exact Le.refl _ | exact Le.own _ _ _ | exact Le.nil _)), (by first | exact MLe.none _ | exact MLe.refl _ | (repeat' (first | exact MLe.nil | exact MLe.refl _ | refine MLe.cons _ ?_ | refine MLe.drop _ ?_)))⟩
                      rcases Nat.lt_or_ge m k with q | q
                      · exact hke m q
                      · obtain rfl : m = k := by omega
                        rw [hx, hz]
                        congr 1
                        omega
                    · refine c_cond_t rfl ?_
                      refine c_seq ?_
                      have hq := hno (fun e => by subst e; rw [hx] at hz; cases hz; omega)
                      refine c_region ?_
                      refine AOps.st 4 rfl rfl rfl (op_assign rfl rfl ?_)
                      refine AOps.st 5 rfl rfl rfl (op_assign rfl rfl ?_)
                      refine AOps.nil ?_
                      refine go_code ?_
                      refine c_ret ?_
                      exact out_tt rfl rfl rfl (Le.tup (Les.cons (Le.seqt (by rw [hq]; rfl)) (Les.cons (Le.beq (by rw [hq]; rfl)) (Les.refl _)))) (by first | exact MLe.none _ | exact MLe.refl _ | (repeat' (first | exact MLe.nil | exact MLe.refl _ | refine MLe.cons _ ?_ | refine MLe.drop _ ?_))) ⟨rfl, rfl⟩
                · refine c_cond_t rfl ?_
                  refine c_seq ?_
                  have hq := hno (fun e => by subst e; omega)
                  refine c_region ?_
                  refine AOps.st 4 rfl rfl rfl (op_assign rfl rfl ?_)
                  refine AOps.st 5 rfl rfl rfl (op_assign rfl rfl ?_)
                  refine AOps.nil ?_
                  refine go_code ?_
                  refine c_ret ?_
                  exact out_tt rfl rfl rfl (Le.tup (Les.cons (Le.seqt (by rw [hq]; rfl)) (Les.cons (Le.beq (by rw [hq]; rfl)) (Les.refl _)))) (by first | exact MLe.none _ | exact MLe.refl _ | (repeat' (first | exact MLe.nil | exact MLe.refl _ | refine MLe.cons _ ?_ | refine MLe.drop _ ?_))) ⟨rfl, rfl⟩
          · refine c_cond_t rfl ?_
            refine c_skip ?_
            refine go_code ?_
            refine c_seq ?_
            refine c_block ?_
            refine c_seq ?_
            obtain ⟨x, hx⟩ := getk (l := ls) (i := i) (by omega)
            have hgx2 := hgx i x hx
            have hxl := hgl i x hx
            refine c_region ?_
            refine AOps.st 57 rfl rfl rfl (op_move rfl rfl ?_)
            refine AOps.st 58 rfl rfl rfl (op_move rfl rfl ?_)
            first | (refine AOps.st 59 rfl rfl rfl (op_index rfl te_34 rfl (.seq _ _) rfl rfl (hgx2) ?_)) | (refine AOps.st 59 rfl rfl rfl (op_index (i := 0) rfl te_34 rfl (.seq _ _) rfl rfl (by first | rfl | assumption) ?_)) | (refine AOps.st 59 rfl rfl rfl (op_index (i := 1) rfl te_34 rfl (.seq _ _) rfl rfl (by first | rfl | assumption) ?_)) | (refine AOps.st 59 rfl rfl rfl (op_index rfl te_34 rfl (.own _ _ _) rfl rfl (hgx2) ?_)) | (refine AOps.st 59 rfl rfl rfl (op_index (i := 0) rfl te_34 rfl (.own _ _ _) rfl rfl (by first | rfl | assumption) ?_)) | (refine AOps.st 59 rfl rfl rfl (op_index (i := 1) rfl te_34 rfl (.own _ _ _) rfl rfl (by first | rfl | assumption) ?_)) | (refine AOps.st 59 rfl rfl rfl (op_index (i := i + 1) rfl te_34 rfl (.seq _ _) rfl (by first | rfl | omega) (hgx2) ?_)) | (refine AOps.st 59 rfl rfl rfl (op_index (i := i + 1) rfl te_34 rfl (.own _ _ _) rfl (by first | rfl | omega) (hgx2) ?_)) | (refine AOps.st 59 rfl rfl rfl (op_index_arr rfl te_34 rfl rfl rfl (by omega) ?_))
            first | (refine AOps.st 60 rfl rfl rfl (op_load_m1 (i := 0) rfl ta_42 rfl rfl rfl ?_)) | (refine AOps.st 60 rfl rfl rfl (op_load_m1 (i := 1) rfl ta_42 rfl rfl rfl ?_)) | (refine AOps.st 60 rfl rfl rfl (op_load_m1 (i := 2) rfl ta_42 rfl rfl rfl ?_)) | (refine AOps.st 60 rfl rfl rfl (op_load_m1 (i := 3) rfl ta_42 rfl rfl rfl ?_)) | (refine AOps.st 60 rfl rfl rfl (op_load_m1 (i := 4) rfl ta_42 rfl rfl rfl ?_)) | (refine AOps.st 60 rfl rfl rfl (op_load_m1 (i := 5) rfl ta_42 rfl rfl rfl ?_)) | (refine AOps.st 60 rfl rfl rfl (op_load_m1 (i := 6) rfl ta_42 rfl rfl rfl ?_)) | (refine AOps.st 60 rfl rfl rfl (op_load_m1 (i := 7) rfl ta_42 rfl rfl rfl ?_)) | (refine AOps.st 60 rfl rfl rfl (op_load_m1 (i := 8) rfl ta_42 rfl rfl rfl ?_)) | (refine AOps.st 60 rfl rfl rfl (op_load_m1 (i := 9) rfl ta_42 rfl rfl rfl ?_)) | (refine AOps.st 60 rfl rfl rfl (op_load_c1 rfl ta_42 rfl rfl ?_))
            refine AOps.st 10 rfl rfl rfl (op_assign rfl rfl ?_)
            refine AOps.nil ?_
            refine go_code ?_
            refine c_seq ?_
            refine c_region ?_
            refine AOps.st 11 rfl rfl rfl (op_assign rfl rfl ?_)
            refine AOps.nil ?_
            refine go_code ?_
            refine c_block ?_
            apply c_loopk [0, 1, 2, 3, 6, 8, 10, 11, 16, 17, 18, 19, 20, 21, 22, 23, 24, 25, 26, 27, 28, 29, 30, 31, 32, 33, 34, 35, 36, 37, 38, 39, 40, 41, 42, 43, 44, 45, 46, 47, 48, 49, 50, 61, 62, 63, 64, 65, 66, 67, 68, 69, 70, 71, 72] (σ := Nat × Value × Nat) (fun zz => match zz with | (j, u, y) => [(8, .own u 1 (u8e (bytesOf ls (8 * i + j)))), (10, .val (.int .u64 (y : Nat))), (11, .val (.int .i64 j))]) (fun zz => match zz with | (j, u, y) => [.own 5 1 u, .loc br [.val (.int .i64 sz), .own u0 4 (oRows 1 H)], .own 86 4 u0]) (fun zz => match zz with | (j, u, y) => j ≤ 8 ∧ y = x / 256 ^ j ∧ y ≤ 18446744073709551615) (fun zz => match zz with | (j, u, y) => 8 - j) ((0, u, x))
            · repeat' (first | exact Drops.nil | apply Drops.keep rfl | apply Drops.skip rfl)
            · exact ⟨by omega, by simp, hxl⟩
            · exact (by repeat' (first | exact SLe.nil _ | refine SLe.cons rfl ?_ ?_ | exact Le.refl _ | exact Le.own _ _ _ | exact Le.nil _))
            · exact (by first | exact MLe.none _ | exact MLe.refl _ | (repeat' (first | exact MLe.nil | exact MLe.refl _ | refine MLe.cons _ ?_ | refine MLe.drop _ ?_)))
            rintro ⟨j, u, y⟩ hI
            try dsimp only [List.cons_append, List.nil_append] at hI ⊢
            obtain ⟨hj, hy, hyl⟩ := hI
            refine c_seq ?_
            refine c_seq ?_
            refine c_region ?_
            refine AOps.st 61 rfl rfl rfl (op_move rfl rfl ?_)
            refine AOps.st 62 rfl rfl rfl (op_lss rfl rfl rfl ?_); intro c62 h62
            refine AOps.nil ?_
            refine go_code ?_
            rcases bool_split h62 with ⟨rfl, g62⟩ | ⟨rfl, g62⟩
            · refine c_cond_f rfl ?_
              refine c_exit ?_
              refine x_code ?_
              refine x_lp ?_
              refine x_here ?_
              refine go_blk ?_
              refine go_code ?_
              obtain rfl : j = 8 := by omega
              refine c_region ?_
              refine AOps.st 55 rfl rfl rfl (op_move rfl rfl ?_)
              first | (refine AOps.st 56 rfl rfl rfl (op_add rfl rfl rfl (IntWalk.i64_in _ (by omega)) ?_)) | (refine AOps.st 56 rfl rfl rfl (op_add rfl rfl rfl rfl ?_))
              refine AOps.st 9 rfl rfl rfl (op_assign rfl rfl ?_)
              refine AOps.nil ?_
              refine go_lp ?_
              exact ⟨(i + 1, u), by show i + 1 ≤ L; have := get_lt hx; omega, by show L - (i + 1) < L - i; have := get_lt hx; omega, (by repeat' (first | exact SLe.nil _ | refine SLe.cons rfl ?_ ?_ | exact Le.refl _ | exact Le.own _ _ _ | exact Le.nil _)), (by first | exact MLe.none _ | exact MLe.refl _ | (repeat' (first | exact MLe.nil | exact MLe.refl _ | refine MLe.cons _ ?_ | refine MLe.drop _ ?_)))⟩
            · refine c_cond_t rfl ?_
              refine c_skip ?_
              refine go_code ?_
              refine c_seq ?_
              refine c_block ?_
              refine c_seq ?_
              have hle : (u8e (bytesOf ls (8 * i + j))).length ≤ 100000000 := by rw [u8e_len, bytesOf_len]; omega
              refine c_region ?_
              refine AOps.st 65 rfl rfl rfl (op_move rfl rfl ?_)
              refine AOps.st 66 rfl rfl rfl (op_move rfl rfl ?_)
              first | (refine AOps.st 67 rfl rfl rfl (op_rem rfl rfl rfl (by omega) (Int.tmod_eq_emod_of_nonneg (by omega)) ?_)) | (refine AOps.st 67 rfl rfl rfl (op_rem rfl rfl rfl (by omega) rfl ?_))
              first | (refine AOps.st 68 rfl rfl rfl (op_convert rfl tu_42 tu_5 rfl (IntWalk.u8_in _ (by omega)) ?_)) | (refine AOps.st 68 rfl rfl rfl (op_convert rfl tu_42 tu_5 rfl rfl ?_))
              refine AOps.st 69 rfl rfl rfl (op_buildSlice (xs := [.tmp 68]) el_105 rfl rfl rfl rfl rfl rfl (Nat.le_of_ble_eq_true rfl) ?_)
              first | (refine AOps.st 70 rfl rfl rfl (op_append (i := 0) el_105 rfl rfl rfl rfl (.seq _ _) (by first | (simp; done) | (simp; omega) | omega) ?_)) | (refine AOps.st 70 rfl rfl rfl (op_append (i := 1) el_105 rfl rfl rfl rfl (.seq _ _) (by first | (simp; done) | (simp; omega) | omega) ?_)) | (refine AOps.st 70 rfl rfl rfl (op_append (i := 2) el_105 rfl rfl rfl rfl (.seq _ _) (by first | (simp; done) | (simp; omega) | omega) ?_)) | (refine AOps.st 70 rfl rfl rfl (op_append (i := 3) el_105 rfl rfl rfl rfl (.seq _ _) (by first | (simp; done) | (simp; omega) | omega) ?_)) | (refine AOps.st 70 rfl rfl rfl (op_append (i := 4) el_105 rfl rfl rfl rfl (.seq _ _) (by first | (simp; done) | (simp; omega) | omega) ?_)) | (refine AOps.st 70 rfl rfl rfl (op_append (i := 5) el_105 rfl rfl rfl rfl (.seq _ _) (by first | (simp; done) | (simp; omega) | omega) ?_)) | (refine AOps.st 70 rfl rfl rfl (op_append (i := 0) el_105 rfl rfl rfl rfl (.own _ _ _) (by first | (simp; done) | (simp; omega) | omega) ?_)) | (refine AOps.st 70 rfl rfl rfl (op_append (i := 1) el_105 rfl rfl rfl rfl (.own _ _ _) (by first | (simp; done) | (simp; omega) | omega) ?_)) | (refine AOps.st 70 rfl rfl rfl (op_append (i := 2) el_105 rfl rfl rfl rfl (.own _ _ _) (by first | (simp; done) | (simp; omega) | omega) ?_)) | (refine AOps.st 70 rfl rfl rfl (op_append (i := 3) el_105 rfl rfl rfl rfl (.own _ _ _) (by first | (simp; done) | (simp; omega) | omega) ?_)) | (refine AOps.st 70 rfl rfl rfl (op_append (i := 4) el_105 rfl rfl rfl rfl (.own _ _ _) (by first | (simp; done) | (simp; omega) | omega) ?_)) | (refine AOps.st 70 rfl rfl rfl (op_append (i := 5) el_105 rfl rfl rfl rfl (.own _ _ _) (by first | (simp; done) | (simp; omega) | omega) ?_)) | (refine AOps.st 70 rfl rfl rfl (op_append (i := 0) el_105 rfl rfl rfl rfl (.nil _) (by first | (simp; done) | (simp; omega) | omega) ?_)) | (refine AOps.st 70 rfl rfl rfl (op_append (i := 1) el_105 rfl rfl rfl rfl (.nil _) (by first | (simp; done) | (simp; omega) | omega) ?_)) | (refine AOps.st 70 rfl rfl rfl (op_append (i := 2) el_105 rfl rfl rfl rfl (.nil _) (by first | (simp; done) | (simp; omega) | omega) ?_)) | (refine AOps.st 70 rfl rfl rfl (op_append (i := 3) el_105 rfl rfl rfl rfl (.nil _) (by first | (simp; done) | (simp; omega) | omega) ?_)) | (refine AOps.st 70 rfl rfl rfl (op_append (i := 4) el_105 rfl rfl rfl rfl (.nil _) (by first | (simp; done) | (simp; omega) | omega) ?_)) | (refine AOps.st 70 rfl rfl rfl (op_append (i := 5) el_105 rfl rfl rfl rfl (.nil _) (by first | (simp; done) | (simp; omega) | omega) ?_)) | (refine AOps.st 70 rfl rfl rfl (op_append_nil el_105 rfl rfl rfl (.seq _ _) (by first | (simp; done) | (simp; omega) | omega) ?_)) | (refine AOps.st 70 rfl rfl rfl (op_append_nil el_105 rfl rfl rfl (.own _ _ _) (by first | (simp; done) | (simp; omega) | omega) ?_)) | (refine AOps.st 70 rfl rfl rfl (op_append_nil el_105 rfl rfl rfl (.nil _) (by first | (simp; done) | (simp; omega) | omega) ?_))
              intro u70
              refine AOps.st 8 rfl rfl rfl (op_assign rfl rfl ?_)
              refine AOps.nil ?_
              refine go_code ?_
              refine c_region ?_
              refine AOps.st 71 rfl rfl rfl (op_move rfl rfl ?_)
              first | (refine AOps.st 72 rfl rfl rfl (op_quo rfl rfl rfl (by omega) (IntWalk.u64_quo _ _ (by omega)) ?_)) | (refine AOps.st 72 rfl rfl rfl (op_quo rfl rfl rfl (by omega) rfl ?_))
              refine AOps.st 10 rfl rfl rfl (op_assign rfl rfl ?_)
              refine AOps.nil ?_
              refine go_blk ?_
              refine go_code ?_
              refine c_region ?_
              refine AOps.st 63 rfl rfl rfl (op_move rfl rfl ?_)
              first | (refine AOps.st 64 rfl rfl rfl (op_add rfl rfl rfl (IntWalk.i64_in _ (by omega)) ?_)) | (refine AOps.st 64 rfl rfl rfl (op_add rfl rfl rfl rfl ?_))
              refine AOps.st 11 rfl rfl rfl (op_assign rfl rfl ?_)
              refine AOps.nil ?_
              refine go_lp ?_
              refine ⟨(j + 1, u70, y / 256), ⟨by show j + 1 ≤ 8; omega, by show y / 256 = _; rw [hy, Nat.div_div_eq_div_mul, Nat.pow_succ], by show y / 256 ≤ _; omega⟩, by show 8 - (j + 1) < 8 - j; omega, SLe.cons rfl (Le.own_eq ?_) (SLe.cons rfl (Le.ieq (show ((y : Int) / 256) = ((y / 256 : Nat) : Int) by omega)) (by repeat' (first | exact SLe.nil _ | refine SLe.cons rfl ?_ ?_ | exact Le.refl _ | exact Le.own _ _ _ | exact Le.nil _))), (by first | exact MLe.none _ | exact MLe.refl _ | (repeat' (first | exact MLe.nil | exact MLe.refl _ | refine MLe.cons _ ?_ | refine MLe.drop _ ?_)))⟩
              rw [show 8 * i + (j + 1) = (8 * i + j) + 1 by omega, bytesOf_next, byteAt_word ls i j x (by omega) hx, ← hy]
              simp [u8e, AV.cells]
        · refine c_cond_t rfl ?_
          refine c_seq ?_
          exact g42.elim
    · have hg : getT H (2 * ((adr H kk : Nat) : Int)) = none := by
        unfold getT
        rw [ho]
        simp only
        rw [if_neg]
        rintro ⟨⟨h1, h2, _⟩, _⟩
        exact hk ⟨h1, h2⟩
      rw [hg]
      obtain ⟨kd, tg, ps⟩ := o
      simp only at hk
      refine ACall.enter Try.func32 rfl (by kernel_rfl) rfl (Nat.le_of_ble_eq_true rfl) ?_
      refine c_start ?_
      refine c_seq ?_
      refine c_region ?_
      refine AOps.st 4 rfl rfl rfl (op_assign rfl rfl ?_)
      refine AOps.st 5 rfl rfl rfl (op_assign rfl rfl ?_)
      refine AOps.nil ?_
      refine go_code ?_
      refine c_seq ?_
      refine c_region ?_
      refine AOps.st 16 rfl rfl rfl (op_move rfl rfl ?_)
      refine AOps.st 17 rfl rfl rfl (op_move rfl rfl ?_)
      refine AOps.st 18 rfl rfl rfl (op_callk (xs := [.tmp 16, .tmp 17]) [0,0] rfl rfl rfl (hF) (by first | exact Les.refl _ | (repeat' (first | exact Les.refl _ | refine Les.cons ?_ ?_ | exact Le.refl _ | exact Le.own _ _ _ | exact Le.nil _ | refine Le.agg ?_))) ?_)
      refine AOps.st 6 rfl rfl rfl (op_assign rfl rfl ?_)
      refine AOps.nil ?_
      refine go_code ?_
      refine c_seq ?_
      refine c_seq ?_
      refine c_bool 42 (True) ?_ _ _ rfl ?_
      · skip
        refine AOps.st 19 rfl rfl rfl (op_move rfl rfl ?_)
        refine AOps.st 20 rfl rfl rfl (op_lss rfl rfl rfl ?_); intro c20 h20
        refine AOps.st 21 rfl rfl rfl (op_move rfl rfl ?_)
        rcases bool_split h20 with ⟨rfl, g20⟩ | ⟨rfl, g20⟩
        · skip
          refine AOps.gt 22 rfl rfl rfl rfl rfl (op_move rfl rfl ?_)
          first | (refine AOps.gt 23 rfl rfl rfl rfl rfl (op_nilCheck_m rfl rfl ?_)) | (refine AOps.gt 23 rfl rfl rfl rfl rfl (op_nilCheck_c rfl rfl ?_)) | (refine AOps.gt 23 rfl rfl rfl rfl rfl (op_nilCheck_f rfl rfl ?_))
          first | (refine AOps.gt 24 rfl rfl rfl rfl rfl (op_fieldAddr_m rfl tf_33_1 rfl ?_)) | (refine AOps.gt 24 rfl rfl rfl rfl rfl (op_fieldAddr_c rfl tf_33_1 rfl rfl ?_))
          first | (refine AOps.gt 25 rfl rfl rfl rfl rfl (op_load_m1 (i := 0) rfl ta_31 rfl rfl rfl ?_)) | (refine AOps.gt 25 rfl rfl rfl rfl rfl (op_load_m1 (i := 1) rfl ta_31 rfl rfl rfl ?_)) | (refine AOps.gt 25 rfl rfl rfl rfl rfl (op_load_m1 (i := 2) rfl ta_31 rfl rfl rfl ?_)) | (refine AOps.gt 25 rfl rfl rfl rfl rfl (op_load_m1 (i := 3) rfl ta_31 rfl rfl rfl ?_)) | (refine AOps.gt 25 rfl rfl rfl rfl rfl (op_load_m1 (i := 4) rfl ta_31 rfl rfl rfl ?_)) | (refine AOps.gt 25 rfl rfl rfl rfl rfl (op_load_m1 (i := 5) rfl ta_31 rfl rfl rfl ?_)) | (refine AOps.gt 25 rfl rfl rfl rfl rfl (op_load_m1 (i := 6) rfl ta_31 rfl rfl rfl ?_)) | (refine AOps.gt 25 rfl rfl rfl rfl rfl (op_load_m1 (i := 7) rfl ta_31 rfl rfl rfl ?_)) | (refine AOps.gt 25 rfl rfl rfl rfl rfl (op_load_m1 (i := 8) rfl ta_31 rfl rfl rfl ?_)) | (refine AOps.gt 25 rfl rfl rfl rfl rfl (op_load_m1 (i := 9) rfl ta_31 rfl rfl rfl ?_)) | (refine AOps.gt 25 rfl rfl rfl rfl rfl (op_load_c1 rfl ta_31 rfl rfl ?_))
          refine AOps.gt 26 rfl rfl rfl rfl rfl (op_move rfl rfl ?_)
          first | (refine AOps.gt 27 rfl rfl rfl rfl rfl (op_index rfl te_31 rfl (.seq _ _) rfl rfl (hgr) ?_)) | (refine AOps.gt 27 rfl rfl rfl rfl rfl (op_index (i := 0) rfl te_31 rfl (.seq _ _) rfl rfl (by first | rfl | assumption) ?_)) | (refine AOps.gt 27 rfl rfl rfl rfl rfl (op_index (i := 1) rfl te_31 rfl (.seq _ _) rfl rfl (by first | rfl | assumption) ?_)) | (refine AOps.gt 27 rfl rfl rfl rfl rfl (op_index rfl te_31 rfl (.own _ _ _) rfl rfl (hgr) ?_)) | (refine AOps.gt 27 rfl rfl rfl rfl rfl (op_index (i := 0) rfl te_31 rfl (.own _ _ _) rfl rfl (by first | rfl | assumption) ?_)) | (refine AOps.gt 27 rfl rfl rfl rfl rfl (op_index (i := 1) rfl te_31 rfl (.own _ _ _) rfl rfl (by first | rfl | assumption) ?_)) | (refine AOps.gt 27 rfl rfl rfl rfl rfl (op_index (i := kk) rfl te_31 rfl (.seq _ _) rfl (by first | rfl | omega) (hgr) ?_)) | (refine AOps.gt 27 rfl rfl rfl rfl rfl (op_index (i := kk) rfl te_31 rfl (.own _ _ _) rfl (by first | rfl | omega) (hgr) ?_)) | (refine AOps.gt 27 rfl rfl rfl rfl rfl (op_index_arr rfl te_31 rfl rfl rfl (by omega) ?_))
          first | (refine AOps.gt 28 rfl rfl rfl rfl rfl (op_fieldAddr_m rfl tf_86_1 rfl ?_)) | (refine AOps.gt 28 rfl rfl rfl rfl rfl (op_fieldAddr_c rfl tf_86_1 rfl rfl ?_))
          first | (refine AOps.gt 29 rfl rfl rfl rfl rfl (op_load_m1 (i := 0) rfl ta_3 rfl rfl rfl ?_)) | (refine AOps.gt 29 rfl rfl rfl rfl rfl (op_load_m1 (i := 1) rfl ta_3 rfl rfl rfl ?_)) | (refine AOps.gt 29 rfl rfl rfl rfl rfl (op_load_m1 (i := 2) rfl ta_3 rfl rfl rfl ?_)) | (refine AOps.gt 29 rfl rfl rfl rfl rfl (op_load_m1 (i := 3) rfl ta_3 rfl rfl rfl ?_)) | (refine AOps.gt 29 rfl rfl rfl rfl rfl (op_load_m1 (i := 4) rfl ta_3 rfl rfl rfl ?_)) | (refine AOps.gt 29 rfl rfl rfl rfl rfl (op_load_m1 (i := 5) rfl ta_3 rfl rfl rfl ?_)) | (refine AOps.gt 29 rfl rfl rfl rfl rfl (op_load_m1 (i := 6) rfl ta_3 rfl rfl rfl ?_)) | (refine AOps.gt 29 rfl rfl rfl rfl rfl (op_load_m1 (i := 7) rfl ta_3 rfl rfl rfl ?_)) | (refine AOps.gt 29 rfl rfl rfl rfl rfl (op_load_m1 (i := 8) rfl ta_3 rfl rfl rfl ?_)) | (refine AOps.gt 29 rfl rfl rfl rfl rfl (op_load_m1 (i := 9) rfl ta_3 rfl rfl rfl ?_)) | (refine AOps.gt 29 rfl rfl rfl rfl rfl (op_load_c1 rfl ta_3 rfl rfl ?_))
          refine AOps.gt 30 rfl rfl rfl rfl rfl (op_neq rfl rfl rfl ?_); intro c30 h30
          refine AOps.st 31 rfl rfl rfl (op_pick rfl rfl rfl ?_)
          refine AOps.st 32 rfl rfl rfl (op_move rfl rfl ?_)
          rcases bool_split h30 with ⟨rfl, g30⟩ | ⟨rfl, g30⟩
          · skip
            refine AOps.gt 33 rfl rfl rfl rfl rfl (op_move rfl rfl ?_)
            first | (refine AOps.gt 34 rfl rfl rfl rfl rfl (op_nilCheck_m rfl rfl ?_)) | (refine AOps.gt 34 rfl rfl rfl rfl rfl (op_nilCheck_c rfl rfl ?_)) | (refine AOps.gt 34 rfl rfl rfl rfl rfl (op_nilCheck_f rfl rfl ?_))
            first | (refine AOps.gt 35 rfl rfl rfl rfl rfl (op_fieldAddr_m rfl tf_33_1 rfl ?_)) | (refine AOps.gt 35 rfl rfl rfl rfl rfl (op_fieldAddr_c rfl tf_33_1 rfl rfl ?_))
            first | (refine AOps.gt 36 rfl rfl rfl rfl rfl (op_load_m1 (i := 0) rfl ta_31 rfl rfl rfl ?_)) | (refine AOps.gt 36 rfl rfl rfl rfl rfl (op_load_m1 (i := 1) rfl ta_31 rfl rfl rfl ?_)) | (refine AOps.gt 36 rfl rfl rfl rfl rfl (op_load_m1 (i := 2) rfl ta_31 rfl rfl rfl ?_)) | (refine AOps.gt 36 rfl rfl rfl rfl rfl (op_load_m1 (i := 3) rfl ta_31 rfl rfl rfl ?_)) | (refine AOps.gt 36 rfl rfl rfl rfl rfl (op_load_m1 (i := 4) rfl ta_31 rfl rfl rfl ?_)) | (refine AOps.gt 36 rfl rfl rfl rfl rfl (op_load_m1 (i := 5) rfl ta_31 rfl rfl rfl ?_)) | (refine AOps.gt 36 rfl rfl rfl rfl rfl (op_load_m1 (i := 6) rfl ta_31 rfl rfl rfl ?_)) | (refine AOps.gt 36 rfl rfl rfl rfl rfl (op_load_m1 (i := 7) rfl ta_31 rfl rfl rfl ?_)) | (refine AOps.gt 36 rfl rfl rfl rfl rfl (op_load_m1 (i := 8) rfl ta_31 rfl rfl rfl ?_)) | (refine AOps.gt 36 rfl rfl rfl rfl rfl (op_load_m1 (i := 9) rfl ta_31 rfl rfl rfl ?_)) | (refine AOps.gt 36 rfl rfl rfl rfl rfl (op_load_c1 rfl ta_31 rfl rfl ?_))
            refine AOps.gt 37 rfl rfl rfl rfl rfl (op_move rfl rfl ?_)
            first | (refine AOps.gt 38 rfl rfl rfl rfl rfl (op_index rfl te_31 rfl (.seq _ _) rfl rfl (hgr) ?_)) | (refine AOps.gt 38 rfl rfl rfl rfl rfl (op_index (i := 0) rfl te_31 rfl (.seq _ _) rfl rfl (by first | rfl | assumption) ?_)) | (refine AOps.gt 38 rfl rfl rfl rfl rfl (op_index (i := 1) rfl te_31 rfl (.seq _ _) rfl rfl (by first | rfl | assumption) ?_)) | (refine AOps.gt 38 rfl rfl rfl rfl rfl (op_index rfl te_31 rfl (.own _ _ _) rfl rfl (hgr) ?_)) | (refine AOps.gt 38 rfl rfl rfl rfl rfl (op_index (i := 0) rfl te_31 rfl (.own _ _ _) rfl rfl (by first | rfl | assumption) ?_)) | (refine AOps.gt 38 rfl rfl rfl rfl rfl (op_index (i := 1) rfl te_31 rfl (.own _ _ _) rfl rfl (by first | rfl | assumption) ?_)) | (refine AOps.gt 38 rfl rfl rfl rfl rfl (op_index (i := kk) rfl te_31 rfl (.seq _ _) rfl (by first | rfl | omega) (hgr) ?_)) | (refine AOps.gt 38 rfl rfl rfl rfl rfl (op_index (i := kk) rfl te_31 rfl (.own _ _ _) rfl (by first | rfl | omega) (hgr) ?_)) | (refine AOps.gt 38 rfl rfl rfl rfl rfl (op_index_arr rfl te_31 rfl rfl rfl (by omega) ?_))
            first | (refine AOps.gt 39 rfl rfl rfl rfl rfl (op_fieldAddr_m rfl tf_86_2 rfl ?_)) | (refine AOps.gt 39 rfl rfl rfl rfl rfl (op_fieldAddr_c rfl tf_86_2 rfl rfl ?_))
            first | (refine AOps.gt 40 rfl rfl rfl rfl rfl (op_load_m1 (i := 0) rfl ta_3 rfl rfl rfl ?_)) | (refine AOps.gt 40 rfl rfl rfl rfl rfl (op_load_m1 (i := 1) rfl ta_3 rfl rfl rfl ?_)) | (refine AOps.gt 40 rfl rfl rfl rfl rfl (op_load_m1 (i := 2) rfl ta_3 rfl rfl rfl ?_)) | (refine AOps.gt 40 rfl rfl rfl rfl rfl (op_load_m1 (i := 3) rfl ta_3 rfl rfl rfl ?_)) | (refine AOps.gt 40 rfl rfl rfl rfl rfl (op_load_m1 (i := 4) rfl ta_3 rfl rfl rfl ?_)) | (refine AOps.gt 40 rfl rfl rfl rfl rfl (op_load_m1 (i := 5) rfl ta_3 rfl rfl rfl ?_)) | (refine AOps.gt 40 rfl rfl rfl rfl rfl (op_load_m1 (i := 6) rfl ta_3 rfl rfl rfl ?_)) | (refine AOps.gt 40 rfl rfl rfl rfl rfl (op_load_m1 (i := 7) rfl ta_3 rfl rfl rfl ?_)) | (refine AOps.gt 40 rfl rfl rfl rfl rfl (op_load_m1 (i := 8) rfl ta_3 rfl rfl rfl ?_)) | (refine AOps.gt 40 rfl rfl rfl rfl rfl (op_load_m1 (i := 9) rfl ta_3 rfl rfl rfl ?_)) | (refine AOps.gt 40 rfl rfl rfl rfl rfl (op_load_c1 rfl ta_3 rfl rfl ?_))
            refine AOps.gt 41 rfl rfl rfl rfl rfl (op_neq rfl rfl rfl ?_); intro c41 h41
            refine AOps.st 42 rfl rfl rfl (op_pick rfl rfl rfl ?_)
            refine AOps.nil ?_
            refine BoolQ.mk rfl ?_ (by repeat' (first | exact SLe.wo _ _ | exact SLe.refl _ | refine SLe.fresh rfl ?_)) (by first | exact MLe.none _ | exact MLe.refl _ | (repeat' (first | exact MLe.nil | exact MLe.refl _ | refine MLe.cons _ ?_ | refine MLe.drop _ ?_)))
            first | (simp_all; done) | (simp_all; omega) | grind
          · skip
            refine AOps.gf 33 rfl rfl rfl rfl rfl ?_
            refine AOps.gf 34 rfl rfl rfl rfl rfl ?_
            refine AOps.gf 35 rfl rfl rfl rfl rfl ?_
            refine AOps.gf 36 rfl rfl rfl rfl rfl ?_
            refine AOps.gf 37 rfl rfl rfl rfl rfl ?_
            refine AOps.gf 38 rfl rfl rfl rfl rfl ?_
            refine AOps.gf 39 rfl rfl rfl rfl rfl ?_
            refine AOps.gf 40 rfl rfl rfl rfl rfl ?_
            refine AOps.gf 41 rfl rfl rfl rfl rfl ?_
            refine AOps.st 42 rfl rfl rfl (op_pick rfl rfl rfl ?_)
            refine AOps.nil ?_
            refine BoolQ.mk rfl ?_ (by repeat' (first | exact SLe.wo _ _ | exact SLe.refl _ | refine SLe.fresh rfl ?_)) (by first | exact MLe.none _ | exact MLe.refl _ | (repeat' (first | exact MLe.nil | exact MLe.refl _ | refine MLe.cons _ ?_ | refine MLe.drop _ ?_)))
            first | (simp_all; done) | (simp_all; omega) | grind
        · skip
          refine AOps.gf 22 rfl rfl rfl rfl rfl ?_
          refine AOps.gf 23 rfl rfl rfl rfl rfl ?_
          refine AOps.gf 24 rfl rfl rfl rfl rfl ?_
          refine AOps.gf 25 rfl rfl rfl rfl rfl ?_
          refine AOps.gf 26 rfl rfl rfl rfl rfl ?_
          refine AOps.gf 27 rfl rfl rfl rfl rfl ?_
          refine AOps.gf 28 rfl rfl rfl rfl rfl ?_
          refine AOps.gf 29 rfl rfl rfl rfl rfl ?_
          refine AOps.gf 30 rfl rfl rfl rfl rfl ?_
          refine AOps.st 31 rfl rfl rfl (op_pick rfl rfl rfl ?_)
          refine AOps.st 32 rfl rfl rfl (op_move rfl rfl ?_)
          refine AOps.gf 33 rfl rfl rfl rfl rfl ?_
          refine AOps.gf 34 rfl rfl rfl rfl rfl ?_
          refine AOps.gf 35 rfl rfl rfl rfl rfl ?_
          refine AOps.gf 36 rfl rfl rfl rfl rfl ?_
          refine AOps.gf 37 rfl rfl rfl rfl rfl ?_
          refine AOps.gf 38 rfl rfl rfl rfl rfl ?_
          refine AOps.gf 39 rfl rfl rfl rfl rfl ?_
          refine AOps.gf 40 rfl rfl rfl rfl rfl ?_
          refine AOps.gf 41 rfl rfl rfl rfl rfl ?_
          refine AOps.st 42 rfl rfl rfl (op_pick rfl rfl rfl ?_)
          refine AOps.nil ?_
          refine BoolQ.mk rfl ?_ (by repeat' (first | exact SLe.wo _ _ | exact SLe.refl _ | refine SLe.fresh rfl ?_)) (by first | exact MLe.none _ | exact MLe.refl _ | (repeat' (first | exact MLe.nil | exact MLe.refl _ | refine MLe.cons _ ?_ | refine MLe.drop _ ?_)))
          first | (simp_all; done) | (simp_all; omega) | grind
      intro c42 h42
      refine go_code ?_
      rcases bool_split h42 with ⟨rfl, g42⟩ | ⟨rfl, g42⟩
      · refine c_cond_f rfl ?_
        refine c_skip ?_
        refine go_code ?_
        refine c_seq ?_
        exact absurd trivial g42
      · refine c_cond_t rfl ?_
        refine c_seq ?_
        refine c_region ?_
        refine AOps.st 4 rfl rfl rfl (op_assign rfl rfl ?_)
        refine AOps.st 5 rfl rfl rfl (op_assign rfl rfl ?_)
        refine AOps.nil ?_
        refine go_code ?_
        refine c_ret ?_
        exact out_tt rfl rfl rfl (Le.refl _) (by first | exact MLe.none _ | exact MLe.refl _ | (repeat' (first | exact MLe.nil | exact MLe.refl _ | refine MLe.cons _ ?_ | refine MLe.drop _ ?_))) ⟨rfl, rfl⟩
end Go.Proofs.Ytecpnlhjjmcllaa
namespace Go.Proofs.Ytecpnlhjjmcllaa
open Go.RowKit
abbrev cmpB := Lib.compareBytes
theorem cmp_anti : ∀ a b : List UInt8, cmpB a b = - cmpB b a
  | [], [] => by simp [cmpB, Lib.compareBytes]
  | [], _ :: _ => by simp [cmpB, Lib.compareBytes]
  | _ :: _, [] => by simp [cmpB, Lib.compareBytes]
  | a :: x, b :: y => by
    have ih := cmp_anti x y
    simp only [cmpB, Lib.compareBytes] at ih ⊢
    by_cases q : a < b
    · have : ¬ b < a := fun h => absurd (UInt8.lt_trans q h) (UInt8.lt_irrefl _)
      simp [q, this]
    · by_cases q2 : b < a
      · simp [q, q2]
      · simp [q, q2, ih]
theorem cmp_trans : ∀ a b c : List UInt8, (cmpB a b = cmpB b c → cmpB a c = cmpB a b) ∧ (cmpB a b = 0 → cmpB a c = cmpB b c) := by
  have h0 : ∀ a b : List UInt8, cmpB a b = 0 → a = b := fun a b h => (cmp_less a b).2.2 h
  have lt : ∀ a b c : List UInt8, cmpB a b = -1 → cmpB b c = -1 → cmpB a c = -1 := by
    intro a
    induction a with
    | nil =>
      intro b c h1 h2
      cases b with
      | nil => simp [cmpB, Lib.compareBytes] at h1
      | cons y b => cases c with
        | nil => simp [cmpB, Lib.compareBytes] at h2
        | cons z c => simp [cmpB, Lib.compareBytes]
    | cons x a ih =>
      intro b c h1 h2
      cases b with
      | nil => simp [cmpB, Lib.compareBytes] at h1
      | cons y b => cases c with
        | nil => simp [cmpB, Lib.compareBytes] at h2
        | cons z c =>
          simp only [cmpB, Lib.compareBytes] at h1 h2 ih ⊢
          by_cases q : x < y
          · by_cases q2 : y < z
            · rw [if_pos (UInt8.lt_trans q q2)]
            · rw [if_neg q2] at h2
              by_cases q3 : z < y
              · rw [if_pos q3] at h2; cases h2
              · have : y = z := UInt8.le_antisymm (UInt8.not_lt.1 q3) (UInt8.not_lt.1 q2)
                subst this
                rw [if_pos q]
          · rw [if_neg q] at h1
            by_cases q3 : y < x
            · rw [if_pos q3] at h1; cases h1
            · have : x = y := UInt8.le_antisymm (UInt8.not_lt.1 q3) (UInt8.not_lt.1 q)
              subst this
              rw [if_neg q3] at h1
              by_cases q2 : x < z
              · rw [if_pos q2]
              · rw [if_neg q2] at h2 ⊢
                by_cases q4 : z < x
                · rw [if_pos q4] at h2; cases h2
                · rw [if_neg q4] at h2 ⊢
                  exact ih b c h1 h2
  intro a b c
  constructor
  · intro h
    have q3 : cmpB a b = -1 ∨ cmpB a b = 0 ∨ cmpB a b = 1 := cmp_three a b
    rcases q3 with q | q | q
    · rw [q]; rw [q] at h; exact lt a b c q h.symm
    · have e1 := h0 a b q
      subst e1
      rw [q] at h
      rw [← h, q]
    · rw [q]; rw [q] at h
      have h1 := cmp_anti b a
      have h2 := cmp_anti c b
      have h3 := cmp_anti a c
      have := lt c b a (by omega) (by omega)
      omega
  · intro h
    rw [h0 a b h]
theorem cmp_self (a : List UInt8) : cmpB a a = 0 := (cmp_less a a).2.1 rfl
theorem cmp_app : ∀ a b : List UInt8, cmpB (a ++ b) a = 1 ∨ (cmpB (a ++ b) a = 0 ∧ b = [])
  | [], [] => by simp [cmpB, Lib.compareBytes]
  | [], _ :: _ => by simp [cmpB, Lib.compareBytes]
  | x :: a, b => by
    have := cmp_app a b
    simp only [cmpB, List.cons_append, Lib.compareBytes, UInt8.lt_irrefl, if_false] at this ⊢
    exact this
/-- heaps of texts alone -/
def hT (ss : List ByteArray) : List HO := ss.map textO
theorem textO_ok {s : ByteArray} (hs : s.size ≤ 1000000) : (textO s).ok := by
  refine ⟨?_, ?_, txt_bounds s⟩
  · show headOk 3 0 (txt s).length = true
    rw [txt_len]; unfold headOk
    simp; omega
  · show 0 < (txt s).length
    rw [txt_len]; omega
theorem hT_ok {ss : List ByteArray} (h : ∀ s ∈ ss, s.size ≤ 1000000) : ∀ o ∈ hT ss, o.ok := by
  intro o ho
  obtain ⟨s, hs, rfl⟩ := List.mem_map.1 ho
  exact textO_ok (h s hs)
theorem hT_app (ss : List ByteArray) (s : ByteArray) : hT (ss ++ [s]) = hT ss ++ [textO s] := by simp [hT]
theorem hT_used (ss : List ByteArray) (s : ByteArray) : used (hT (ss ++ [s])) = used (hT ss) + ((s.size + 7) / 8 + 2) := by
  rw [hT_app, used_app, used_one]
  show _ + ((txt s).length + 1) = _
  rw [txt_len]
theorem hT_len (ss : List ByteArray) : (hT ss).length = ss.length := by simp [hT]
theorem hT_get {ss : List ByteArray} {k : Nat} {s : ByteArray} (h : ss[k]? = some s) (hs : s.size ≤ 1000000) : getT (hT ss) (2 * ((adr (hT ss) k : Nat) : Int)) = some s :=
  getT_text (objOf_adr (by simp [hT, h])) (by omega)
theorem hT_adr (ss ts : List ByteArray) {k : Nat} (h : k ≤ ss.length) : adr (hT (ss ++ ts)) k = adr (hT ss) k := by
  unfold adr hT
  rw [List.map_append, List.take_append_of_le_length (by simpa using h)]
theorem Put_t (b : Nat) (sz : Int) (ss : List ByteArray) (M : Mem) (hM : HeapAt b sz (hT ss) M) (h : 0 < sz) (hs : sz ≤ 16777216) (s : ByteArray) (hss : s.size ≤ 1000000) (hfit : (used (hT ss) : Int) + ((s.size + 7) / 8 + 2 : Nat) ≤ sz) :
    ACall Try.prog 37 [.ptr b 0, .val (.string s)] M (fun v M' => v = .tup [.val (.int .u64 (2 * ((adr (hT (ss ++ [s])) ss.length : Nat) : Int))), .val (.bool true)] ∧ HeapAt b sz (hT (ss ++ [s])) M') := by
  have hl := txt_len s
  refine (Put_c b sz (hT ss) M hM h hs (by omega) s (by omega)).mono ?_
  rintro v M' ⟨ok, w, H', hr, rfl, hM'⟩
  have e : adr (hT (ss ++ [s])) ss.length = used (hT ss) + 1 := by
    rw [hT_adr ss [s] (Nat.le_refl _)]
    unfold adr
    rw [List.take_of_length_le (by rw [hT_len]; exact Nat.le_refl _)]
  rcases hr with ⟨h1, rfl, rfl, rfl⟩ | ⟨h1, _⟩
  · rw [e, hT_app]
    exact ⟨by rw [Int.natCast_add]; rfl, hM'⟩
  · exfalso
    apply h1
    refine ⟨?_, ?_, ?_⟩
    · show headOk 3 0 (txt s).length = true
      rw [hl]; unfold headOk; simp; omega
    · show 0 < (txt s).length
      omega
    · show (used (hT ss) : Int) + (txt s).length + 1 ≤ sz
      omega
theorem New_y (sz : Int) (h : 1 ≤ sz) (h2 : sz ≤ 16777216) : ACall Try.prog 12 [.val (.int .i64 sz)] [] (fun v M' => ∃ b, v = .tup [.ptr b 0, .val (.int .i64 0)] ∧ HeapAt b sz [] M') :=
  (New_c sz).mono (by
    rintro v M' (⟨_, _, b, rfl, hM⟩ | ⟨hn, _⟩)
    · exact ⟨b, rfl, hM⟩
    · exact absurd ⟨h, h2⟩ hn)
end Go.Proofs.Ytecpnlhjjmcllaa
namespace Go.Proofs.Ytecpnlhjjmcllaa
open Go.RowKit
theorem hT0 : hT [] = [] := rfl
abbrev s9 : ByteArray := ⟨#[97, 98, 99, 100, 101, 102, 103, 104, 105]⟩
set_option maxHeartbeats 4000000 in
set_option maxRecDepth 100000 in
theorem awake32_c : PCall Try.prog 26 [] (.val (.bool true)) := by
  have hG := hT_get (ss := [s9]) (k := 0) rfl (by decide)
  have hg : getR (hT [s9]) (2 * ((adr (hT [s9]) 0 : Nat) : Int)) = .tup [.val (.string s9), .val (.bool true)] := by rw [getR_eq, hG]; rfl
  have ha : adr (hT [s9]) 0 = 1 := rfl
  have hu : used (hT [s9]) = 4 := by
    have := hT_used [] s9
    rw [List.nil_append, hT0, used_nil] at this
    rw [this]; rfl
  have hN := Need_c 9 (by omega) (by omega)
  rw [show need 9 = 4 from rfl] at hN
  have hok := hT_ok (ss := [s9]) (by simp; decide)
  have hfit : (used (hT []) : Int) + ((s9.size + 7) / 8 + 2 : Nat) ≤ 20 := by decide
  refine ACall.enter Try.func26 rfl (by kernel_rfl) rfl (Nat.le_of_ble_eq_true rfl) ?_
  refine c_start ?_
  refine c_seq ?_
  refine c_region ?_
  refine AOps.st 0 rfl rfl rfl (op_assign rfl rfl ?_)
  refine AOps.nil ?_
  refine go_code ?_
  refine c_seq ?_
  refine c_region ?_
  refine AOps.st 8 rfl rfl rfl (op_callat [] (xs := [.const (.int .i64 20)]) rfl rfl rfl (New_y 20 (by omega) (by omega)) (by first | exact Les.refl _ | (repeat' (first | exact Les.refl _ | refine Les.cons ?_ ?_ | exact Le.refl _ | exact Le.own _ _ _ | exact Le.nil _ | refine Le.agg ?_))) ?_)
  rintro v1 M1 ⟨b, rfl, hM⟩
  obtain ⟨r0, r1, r2, rfl⟩ := hM.three
  have hP := Put_t b 20 [] _ hM (by omega) (by omega) s9 (by decide) hfit
  refine AOps.st 7 rfl rfl rfl (op_move rfl rfl ?_)
  refine AOps.st 9 rfl rfl rfl (op_extract rfl rfl rfl ?_)
  refine AOps.st 10 rfl rfl rfl (op_extract rfl rfl rfl ?_)
  refine AOps.st 1 rfl rfl rfl (op_assign rfl rfl ?_)
  refine AOps.st 2 rfl rfl rfl (op_assign rfl rfl ?_)
  refine AOps.nil ?_
  refine go_code ?_
  refine c_seq ?_
  refine c_region ?_
  refine AOps.st 12 rfl rfl rfl (op_move rfl rfl ?_)
  refine AOps.st 13 rfl rfl rfl (op_callat [0,0,0] (xs := [.tmp 12, .const (.string ⟨#[97, 98, 99, 100, 101, 102, 103, 104, 105]⟩)])  rfl rfl rfl hP (by first | exact Les.refl _ | (repeat' (first | exact Les.refl _ | refine Les.cons ?_ ?_ | exact Le.refl _ | exact Le.own _ _ _ | exact Le.nil _ | refine Le.agg ?_))) ?_)
  rintro v2 M2 ⟨rfl, hM2⟩
  obtain ⟨q0, q1, q2, rfl⟩ := hM2.three
  have hGet := Get_c b 20 _ _ hM2 (by omega) hok (by rw [List.nil_append, hu]; omega) (2 * ((adr (hT [s9]) 0 : Nat) : Int)) (by omega) (by rw [ha]; omega)
  have hUs := Used_c b 20 _ _ hM2 (by omega) (by rw [List.nil_append, hu]; omega)
  rw [List.nil_append, hg] at hGet
  rw [List.nil_append, hu] at hUs
  refine AOps.st 11 rfl rfl rfl (op_move rfl rfl ?_)
  refine AOps.st 14 rfl rfl rfl (op_extract rfl rfl rfl ?_)
  refine AOps.st 15 rfl rfl rfl (op_extract rfl rfl rfl ?_)
  refine AOps.st 3 rfl rfl rfl (op_assign rfl rfl ?_)
  refine AOps.st 4 rfl rfl rfl (op_assign rfl rfl ?_)
  refine AOps.nil ?_
  refine go_code ?_
  refine c_seq ?_
  refine c_region ?_
  refine AOps.st 17 rfl rfl rfl (op_move rfl rfl ?_)
  refine AOps.st 18 rfl rfl rfl (op_move rfl rfl ?_)
  refine AOps.st 19 rfl rfl rfl (op_callk (xs := [.tmp 17, .tmp 18]) [0,0,0] rfl rfl rfl (hGet) (by first | exact Les.refl _ | (repeat' (first | exact Les.refl _ | refine Les.cons ?_ ?_ | exact Le.refl _ | exact Le.own _ _ _ | exact Le.nil _ | refine Le.agg ?_))) ?_)
  refine AOps.st 16 rfl rfl rfl (op_move rfl rfl ?_)
  refine AOps.st 20 rfl rfl rfl (op_extract rfl rfl rfl ?_)
  refine AOps.st 21 rfl rfl rfl (op_extract rfl rfl rfl ?_)
  refine AOps.st 5 rfl rfl rfl (op_assign rfl rfl ?_)
  refine AOps.st 6 rfl rfl rfl (op_assign rfl rfl ?_)
  refine AOps.nil ?_
  refine go_code ?_
  refine c_seq ?_
  refine c_bool 0 (True) ?_ _ _ rfl ?_
  · skip
    refine AOps.st 22 rfl rfl rfl (op_callp (xs := [.const (.int .i64 9)]) rfl rfl (hN) (by first | exact Les.refl _ | (repeat' (first | exact Les.refl _ | refine Les.cons ?_ ?_ | exact Le.refl _ | exact Le.own _ _ _ | exact Le.nil _ | refine Le.agg ?_))) ?_)
    refine AOps.st 23 rfl rfl rfl (op_eql rfl rfl rfl ?_); intro c23 h23
    refine AOps.st 24 rfl rfl rfl (op_move rfl rfl ?_)
    rcases bool_split h23 with ⟨rfl, g23⟩ | ⟨rfl, g23⟩
    · exact absurd rfl g23
    · skip
      refine AOps.gt 25 rfl rfl rfl rfl rfl (op_move rfl rfl ?_)
      refine AOps.st 26 rfl rfl rfl (op_pick rfl rfl rfl ?_)
      refine AOps.st 27 rfl rfl rfl (op_move rfl rfl ?_)
      refine AOps.gt 28 rfl rfl rfl rfl rfl (op_move rfl rfl ?_)
      refine AOps.st 29 rfl rfl rfl (op_pick rfl rfl rfl ?_)
      refine AOps.st 30 rfl rfl rfl (op_move rfl rfl ?_)
      refine AOps.gt 31 rfl rfl rfl rfl rfl (op_move rfl rfl ?_)
      refine AOps.gt 32 rfl rfl rfl rfl rfl (op_seql rfl rfl rfl ?_); intro c32 h32
      refine AOps.st 33 rfl rfl rfl (op_pick rfl rfl rfl ?_)
      refine AOps.st 34 rfl rfl rfl (op_move rfl rfl ?_)
      rcases bool_split h32 with ⟨rfl, g32⟩ | ⟨rfl, g32⟩
      · skip
        refine AOps.gf 35 rfl rfl rfl rfl rfl ?_
        refine AOps.gf 36 rfl rfl rfl rfl rfl ?_
        refine AOps.gf 37 rfl rfl rfl rfl rfl ?_
        refine AOps.st 38 rfl rfl rfl (op_pick rfl rfl rfl ?_)
        refine AOps.st 0 rfl rfl rfl (op_assign rfl rfl ?_)
        refine AOps.nil ?_
        refine BoolQ.mk rfl ?_ (by repeat' (first | exact SLe.wo _ _ | exact SLe.refl _ | refine SLe.fresh rfl ?_)) (by first | exact MLe.none _ | exact MLe.refl _ | (repeat' (first | exact MLe.nil | exact MLe.refl _ | refine MLe.cons _ ?_ | refine MLe.drop _ ?_)))
        first | (simp_all; done) | (simp_all; omega)
      · skip
        refine AOps.gt 35 rfl rfl rfl rfl rfl (op_move rfl rfl ?_)
        refine AOps.gt 36 rfl rfl rfl rfl rfl (op_callk (xs := [.tmp 35]) [0,0,0] rfl rfl rfl (hUs) (by first | exact Les.refl _ | (repeat' (first | exact Les.refl _ | refine Les.cons ?_ ?_ | exact Le.refl _ | exact Le.own _ _ _ | exact Le.nil _ | refine Le.agg ?_))) ?_)
        refine AOps.gt 37 rfl rfl rfl rfl rfl (op_eql rfl rfl rfl ?_); intro c37 h37
        refine AOps.st 38 rfl rfl rfl (op_pick rfl rfl rfl ?_)
        refine AOps.st 0 rfl rfl rfl (op_assign rfl rfl ?_)
        refine AOps.nil ?_
        refine BoolQ.mk rfl ?_ (by repeat' (first | exact SLe.wo _ _ | exact SLe.refl _ | refine SLe.fresh rfl ?_)) (by first | exact MLe.none _ | exact MLe.refl _ | (repeat' (first | exact MLe.nil | exact MLe.refl _ | refine MLe.cons _ ?_ | refine MLe.drop _ ?_)))
        first | (simp_all; done) | (simp_all; omega)
  intro c0 h0
  refine go_code ?_
  refine c_ret ?_
  exact out_tmp rfl rfl (Le.beq (h0.2 trivial)) (by first | exact MLe.none _ | exact MLe.refl _ | (repeat' (first | exact MLe.nil | exact MLe.refl _ | refine MLe.cons _ ?_ | refine MLe.drop _ ?_))) ⟨rfl, rfl⟩
end Go.Proofs.Ytecpnlhjjmcllaa
namespace Go.Proofs.Ytecpnlhjjmcllaa
open Go.RowKit
theorem Order_t (b : Nat) (sz : Int) (ss : List ByteArray) (M : Mem) (hM : HeapAt b sz (hT ss) M) (h : 0 < sz) (hs : ∀ s ∈ ss, s.size ≤ 1000000) (hu : used (hT ss) ≤ 1000000) (i j : Nat) (x y : ByteArray) (hx : ss[i]? = some x) (hy : ss[j]? = some y) : KCall Try.prog 34 [.ptr b 0, .val (.int .u64 (2 * ((adr (hT ss) i : Nat) : Int))), .val (.int .u64 (2 * ((adr (hT ss) j : Nat) : Int)))] M (.tup [.val (.int .i64 (cmpB x.data.toList y.data.toList)), .val (.bool true)]) := by
  have h1 := adr_fit (H := hT ss) (k := i) (o := textO x) (by simp [hT, hx])
  have h2 := adr_fit (H := hT ss) (k := j) (o := textO y) (by simp [hT, hy])
  have := Order_c b sz _ M hM h (hT_ok hs) hu (2 * ((adr (hT ss) i : Nat) : Int)) (2 * ((adr (hT ss) j : Nat) : Int)) (by omega) (by omega) (by omega) (by omega)
  rw [hT_get hx (hs x (List.mem_of_getElem? hx)), hT_get hy (hs y (List.mem_of_getElem? hy))] at this
  unfold ordV at this
  rw [hT_get hx (hs x (List.mem_of_getElem? hx)), hT_get hy (hs y (List.mem_of_getElem? hy))] at this
  exact this
theorem Cat_t (b : Nat) (sz : Int) (ss : List ByteArray) (M : Mem) (hM : HeapAt b sz (hT ss) M) (h : 0 < sz) (hsz : sz ≤ 16777216) (hs : ∀ s ∈ ss, s.size ≤ 1000000) (hu : used (hT ss) ≤ 1000000) (i j : Nat) (x y : ByteArray) (hx : ss[i]? = some x) (hy : ss[j]? = some y) (hxy : (x ++ y).size ≤ 1000000) (hfit : (used (hT ss) : Int) + (((x ++ y).size + 7) / 8 + 2 : Nat) ≤ sz) :
    ACall Try.prog 35 [.ptr b 0, .val (.int .u64 (2 * ((adr (hT ss) i : Nat) : Int))), .val (.int .u64 (2 * ((adr (hT ss) j : Nat) : Int)))] M (fun v M' => v = .tup [.val (.int .u64 (2 * ((adr (hT (ss ++ [x ++ y])) ss.length : Nat) : Int))), .val (.bool true)] ∧ HeapAt b sz (hT (ss ++ [x ++ y])) M') := by
  have h1 := adr_fit (H := hT ss) (k := i) (o := textO x) (by simp [hT, hx])
  have h2 := adr_fit (H := hT ss) (k := j) (o := textO y) (by simp [hT, hy])
  have hgx := hT_get hx (hs x (List.mem_of_getElem? hx))
  have hgy := hT_get hy (hs y (List.mem_of_getElem? hy))
  refine (Cat_c b sz _ M hM h hsz (hT_ok hs) hu (2 * ((adr (hT ss) i : Nat) : Int)) (2 * ((adr (hT ss) j : Nat) : Int)) (by omega) (by omega) (by omega) (by omega)).mono ?_
  rintro v M' ⟨ok, w, H', hr, rfl, hM'⟩
  have hl := txt_len (x ++ y)
  have e : adr (hT (ss ++ [x ++ y])) ss.length = used (hT ss) + 1 := by
    rw [hT_adr ss [x ++ y] (Nat.le_refl _)]
    unfold adr
    rw [List.take_of_length_le (by rw [hT_len]; exact Nat.le_refl _)]
  unfold CatR at hr
  rw [hgx, hgy] at hr
  rcases hr with ⟨_, hr⟩ | ⟨hr, _⟩
  · rcases hr with ⟨h1, rfl, rfl, rfl⟩ | ⟨h1, _⟩
    · rw [e, hT_app]
      exact ⟨by rw [Int.natCast_add]; rfl, hM'⟩
    · exfalso
      apply h1
      refine ⟨?_, ?_, ?_⟩
      · show headOk 3 0 (txt (x ++ y)).length = true
        rw [hl]; generalize (x ++ y).size = q at *; unfold headOk; simp; omega
      · show 0 < (txt (x ++ y)).length
        omega
      · show (used (hT ss) : Int) + (txt (x ++ y)).length + 1 ≤ sz
        omega
  · cases hr
theorem Get_t (b : Nat) (sz : Int) (ss : List ByteArray) (M : Mem) (hM : HeapAt b sz (hT ss) M) (h : 0 < sz) (hs : ∀ s ∈ ss, s.size ≤ 1000000) (hu : used (hT ss) ≤ 1000000) (i : Nat) (x : ByteArray) (hx : ss[i]? = some x) : KCall Try.prog 31 [.ptr b 0, .val (.int .u64 (2 * ((adr (hT ss) i : Nat) : Int)))] M (.tup [.val (.string x), .val (.bool true)]) := by
  have h1 := adr_fit (H := hT ss) (k := i) (o := textO x) (by simp [hT, hx])
  have := Get_c b sz _ M hM h (hT_ok hs) hu (2 * ((adr (hT ss) i : Nat) : Int)) (by omega) (by omega)
  rw [getR_eq, hT_get hx (hs x (List.mem_of_getElem? hx))] at this
  exact this
theorem Len_t (b : Nat) (sz : Int) (ss : List ByteArray) (M : Mem) (hM : HeapAt b sz (hT ss) M) (h : 0 < sz) (hs : ∀ s ∈ ss, s.size ≤ 1000000) (hu : used (hT ss) ≤ 1000000) (i : Nat) (x : ByteArray) (hx : ss[i]? = some x) : KCall Try.prog 33 [.ptr b 0, .val (.int .u64 (2 * ((adr (hT ss) i : Nat) : Int)))] M (.tup [.val (.int .i64 x.size), .val (.bool true)]) := by
  have h1 := adr_fit (H := hT ss) (k := i) (o := textO x) (by simp [hT, hx])
  have := Len_c b sz _ M hM h (hT_ok hs) hu (2 * ((adr (hT ss) i : Nat) : Int)) (by omega) (by omega)
  rw [hT_get hx (hs x (List.mem_of_getElem? hx))] at this
  exact this
structure Rw where
  kd : Int
  tg : Int
  ps : List Int
def Rw.cells (x : Rw) : List AV := [.val (.int .i64 x.kd), .val (.int .i64 x.tg), .seq 1 (x.ps.map iv)]
def sls (l : List ByteArray) : List (List AV) := l.map fun s => [.val (.string s)]
def rws (l : List Rw) : List (List AV) := l.map Rw.cells
theorem sls_len (l : List ByteArray) : (sls l).length = l.length := by simp [sls]
theorem rws_len (l : List Rw) : (rws l).length = l.length := by simp [rws]
theorem sls_get {l : List ByteArray} {i : Nat} {x : ByteArray} (h : l[i]? = some x) : (sls l)[i]? = some [.val (.string x)] := by simp [sls, h]
theorem rws_get {l : List Rw} {i : Nat} {x : Rw} (h : l[i]? = some x) : (rws l)[i]? = some [.val (.int .i64 x.kd), .val (.int .i64 x.tg), .seq 1 (x.ps.map iv)] := by simp [rws, h, Rw.cells]
def tot (l : List ByteArray) : Nat := (l.map ByteArray.size).sum
def totR (l : List Rw) : Nat := (l.map fun x => x.ps.length).sum
def Small32 (l : List ByteArray) (r : List Rw) : Prop := tot l + totR r ≤ 4000 ∧ l.length ≤ 20 ∧ r.length ≤ 10
theorem tot_next {l : List ByteArray} {i : Nat} {x : ByteArray} (h : l[i]? = some x) : tot (l.take (i + 1)) = tot (l.take i) + x.size := by rw [take_next h]; simp [tot]
theorem totR_next {l : List Rw} {i : Nat} {x : Rw} (h : l[i]? = some x) : totR (l.take (i + 1)) = totR (l.take i) + x.ps.length := by rw [take_next h]; simp [totR]
set_option maxHeartbeats 4000000 in
set_option maxRecDepth 100000 in
theorem small32_c (l : List ByteArray) (r : List Rw) (hl : ∀ s ∈ l, s.size ≤ reachBytes) (hr : ∀ x ∈ r, x.ps.length ≤ reachBytes) : BCall Try.prog 27 [.seq 1 (sls l), .seq 3 (rws r)] (Small32 l r) := by
  unfold reachBytes at hl hr
  have h1 := sls_len l
  have h2 := rws_len r
  unfold Small32
  by_cases hq : l.length ≤ 20 ∧ r.length ≤ 10
  · refine ACall.enter Try.func27 rfl (by kernel_rfl) rfl (Nat.le_of_ble_eq_true rfl) ?_
    refine c_start ?_
    refine c_seq ?_
    refine c_region ?_
    refine AOps.st 4 rfl rfl rfl (op_assign rfl rfl ?_)
    refine AOps.nil ?_
    refine go_code ?_
    refine c_seq ?_
    refine c_region ?_
    refine AOps.st 5 rfl rfl rfl (op_assign rfl rfl ?_)
    refine AOps.nil ?_
    refine go_code ?_
    refine c_seq ?_
    refine c_seq ?_
    refine c_region ?_
    refine AOps.st 10 rfl rfl rfl (op_move rfl rfl ?_)
    first | (refine AOps.st 11 rfl rfl rfl (op_len rfl tu_57 rfl (.seq _ _) (fun n11 => ?_))) | (refine AOps.st 11 rfl rfl rfl (op_len rfl tu_57 rfl (.own _ _ _) (fun n11 => ?_))) | (refine AOps.st 11 rfl rfl rfl (op_len rfl tu_57 rfl (.nil 0) (fun n11 => ?_))) | (refine AOps.st 11 rfl rfl rfl (op_len_arr rfl tu_57 rfl ?_))
    refine AOps.st 12 rfl rfl rfl (op_move rfl rfl ?_)
    refine AOps.nil ?_
    refine go_code ?_
    refine c_block ?_
    apply c_loopkm [2, 3, 5, 6, 7, 8, 12, 13, 14, 15, 16, 17, 18, 19, 20] (σ := Nat) (fun zz => match zz with | k => [(12, .val (.int .i64 k)), (5, .val (.int .i64 (tot (l.take k))))]) (fun zz => match zz with | k => k ≤ l.length ∧ tot (l.take k) ≤ k * 140737488351232) (fun zz => match zz with | k => l.length - k) (0)
    · repeat' (first | exact Drops.nil | apply Drops.keep rfl | apply Drops.skip rfl)
    · exact ⟨Nat.zero_le _, by simp [tot]⟩
    · exact (by repeat' (first | exact SLe.nil _ | refine SLe.cons rfl ?_ ?_ | exact Le.refl _ | exact Le.own _ _ _ | exact Le.nil _))
    rintro k hI
    try dsimp only [List.cons_append, List.nil_append] at hI ⊢
    obtain ⟨hk, hb⟩ := hI
    refine c_seq ?_
    refine c_region ?_
    refine AOps.st 13 rfl rfl rfl (op_lss rfl rfl rfl ?_); intro c13 h13
    refine AOps.nil ?_
    refine go_code ?_
    refine c_seq ?_
    rcases bool_split h13 with ⟨rfl, g13⟩ | ⟨rfl, g13⟩
    · refine c_cond_f rfl ?_
      refine c_exit ?_
      refine x_code ?_
      refine x_lp ?_
      refine x_here ?_
      refine go_code ?_
      refine c_seq ?_
      refine c_seq ?_
      obtain rfl : k = l.length := by omega
      rw [List.take_length] at hb ⊢
      refine c_region ?_
      refine AOps.st 21 rfl rfl rfl (op_move rfl rfl ?_)
      first | (refine AOps.st 22 rfl rfl rfl (op_len rfl tu_58 rfl (.seq _ _) (fun n22 => ?_))) | (refine AOps.st 22 rfl rfl rfl (op_len rfl tu_58 rfl (.own _ _ _) (fun n22 => ?_))) | (refine AOps.st 22 rfl rfl rfl (op_len rfl tu_58 rfl (.nil 0) (fun n22 => ?_))) | (refine AOps.st 22 rfl rfl rfl (op_len_arr rfl tu_58 rfl ?_))
      refine AOps.st 23 rfl rfl rfl (op_move rfl rfl ?_)
      refine AOps.nil ?_
      refine go_code ?_
      refine c_block ?_
      apply c_loopkm [2, 3, 5, 6, 7, 8, 9, 10, 11, 12, 13, 14, 15, 16, 17, 18, 19, 20, 23, 24, 25, 26, 27, 28, 29, 30, 31, 32] (σ := Nat) (fun zz => match zz with | k => [(23, .val (.int .i64 k)), (5, .val (.int .i64 (tot l + totR (r.take k))))]) (fun zz => match zz with | k => k ≤ r.length ∧ totR (r.take k) ≤ k * 140737488351232) (fun zz => match zz with | k => r.length - k) (0)
      · repeat' (first | exact Drops.nil | apply Drops.keep rfl | apply Drops.skip rfl)
      · exact ⟨Nat.zero_le _, by simp [totR]⟩
      · exact (SLe.cons rfl (Le.refl _) (SLe.cons rfl (Le.ieq (by simp [totR])) (by repeat' (first | exact SLe.nil _ | refine SLe.cons rfl ?_ ?_ | exact Le.refl _ | exact Le.own _ _ _ | exact Le.nil _))))
      rintro k hI
      try dsimp only [List.cons_append, List.nil_append] at hI ⊢
      obtain ⟨hk, hb2⟩ := hI
      refine c_seq ?_
      refine c_region ?_
      refine AOps.st 24 rfl rfl rfl (op_lss rfl rfl rfl ?_); intro c24 h24
      refine AOps.nil ?_
      refine go_code ?_
      refine c_seq ?_
      rcases bool_split h24 with ⟨rfl, g24⟩ | ⟨rfl, g24⟩
      · refine c_cond_f rfl ?_
        refine c_exit ?_
        refine x_code ?_
        refine x_lp ?_
        refine x_here ?_
        refine go_code ?_
        refine c_seq ?_
        obtain rfl : k = r.length := by omega
        rw [List.take_length] at hb2 ⊢
        refine c_bool 4 (tot l + totR r ≤ 4000 ∧ l.length ≤ 20 ∧ r.length ≤ 10) ?_ _ _ rfl ?_
        · skip
          refine AOps.st 33 rfl rfl rfl (op_move rfl rfl ?_)
          refine AOps.st 34 rfl rfl rfl (op_leq rfl rfl rfl ?_); intro c34 h34
          refine AOps.st 35 rfl rfl rfl (op_move rfl rfl ?_)
          rcases bool_split h34 with ⟨rfl, g34⟩ | ⟨rfl, g34⟩
          · skip
            refine AOps.gf 36 rfl rfl rfl rfl rfl ?_
            refine AOps.gf 37 rfl rfl rfl rfl rfl ?_
            refine AOps.gf 38 rfl rfl rfl rfl rfl ?_
            refine AOps.st 39 rfl rfl rfl (op_pick rfl rfl rfl ?_)
            refine AOps.st 40 rfl rfl rfl (op_move rfl rfl ?_)
            refine AOps.gf 41 rfl rfl rfl rfl rfl ?_
            refine AOps.gf 42 rfl rfl rfl rfl rfl ?_
            refine AOps.gf 43 rfl rfl rfl rfl rfl ?_
            refine AOps.st 44 rfl rfl rfl (op_pick rfl rfl rfl ?_)
            refine AOps.st 4 rfl rfl rfl (op_assign rfl rfl ?_)
            refine AOps.nil ?_
            refine BoolQ.mk rfl ?_ (by repeat' (first | exact SLe.wo _ _ | exact SLe.refl _ | refine SLe.fresh rfl ?_)) (by first | exact MLe.none _ | exact MLe.refl _ | (repeat' (first | exact MLe.nil | exact MLe.refl _ | refine MLe.cons _ ?_ | refine MLe.drop _ ?_)))
            first | (simp_all; done) | (simp_all; omega)
          · skip
            refine AOps.gt 36 rfl rfl rfl rfl rfl (op_move rfl rfl ?_)
            first | (refine AOps.gt 37 rfl rfl rfl rfl rfl (op_len rfl tu_57 rfl (.seq _ _) (fun n37 => ?_))) | (refine AOps.gt 37 rfl rfl rfl rfl rfl (op_len rfl tu_57 rfl (.own _ _ _) (fun n37 => ?_))) | (refine AOps.gt 37 rfl rfl rfl rfl rfl (op_len rfl tu_57 rfl (.nil 0) (fun n37 => ?_))) | (refine AOps.gt 37 rfl rfl rfl rfl rfl (op_len_arr rfl tu_57 rfl ?_))
            refine AOps.gt 38 rfl rfl rfl rfl rfl (op_leq rfl rfl rfl ?_); intro c38 h38
            refine AOps.st 39 rfl rfl rfl (op_pick rfl rfl rfl ?_)
            refine AOps.st 40 rfl rfl rfl (op_move rfl rfl ?_)
            rcases bool_split h38 with ⟨rfl, g38⟩ | ⟨rfl, g38⟩
            · skip
              refine AOps.gf 41 rfl rfl rfl rfl rfl ?_
              refine AOps.gf 42 rfl rfl rfl rfl rfl ?_
              refine AOps.gf 43 rfl rfl rfl rfl rfl ?_
              refine AOps.st 44 rfl rfl rfl (op_pick rfl rfl rfl ?_)
              refine AOps.st 4 rfl rfl rfl (op_assign rfl rfl ?_)
              refine AOps.nil ?_
              refine BoolQ.mk rfl ?_ (by repeat' (first | exact SLe.wo _ _ | exact SLe.refl _ | refine SLe.fresh rfl ?_)) (by first | exact MLe.none _ | exact MLe.refl _ | (repeat' (first | exact MLe.nil | exact MLe.refl _ | refine MLe.cons _ ?_ | refine MLe.drop _ ?_)))
              first | (simp_all; done) | (simp_all; omega)
            · skip
              refine AOps.gt 41 rfl rfl rfl rfl rfl (op_move rfl rfl ?_)
              first | (refine AOps.gt 42 rfl rfl rfl rfl rfl (op_len rfl tu_58 rfl (.seq _ _) (fun n42 => ?_))) | (refine AOps.gt 42 rfl rfl rfl rfl rfl (op_len rfl tu_58 rfl (.own _ _ _) (fun n42 => ?_))) | (refine AOps.gt 42 rfl rfl rfl rfl rfl (op_len rfl tu_58 rfl (.nil 0) (fun n42 => ?_))) | (refine AOps.gt 42 rfl rfl rfl rfl rfl (op_len_arr rfl tu_58 rfl ?_))
              refine AOps.gt 43 rfl rfl rfl rfl rfl (op_leq rfl rfl rfl ?_); intro c43 h43
              refine AOps.st 44 rfl rfl rfl (op_pick rfl rfl rfl ?_)
              refine AOps.st 4 rfl rfl rfl (op_assign rfl rfl ?_)
              refine AOps.nil ?_
              refine BoolQ.mk rfl ?_ (by repeat' (first | exact SLe.wo _ _ | exact SLe.refl _ | refine SLe.fresh rfl ?_)) (by first | exact MLe.none _ | exact MLe.refl _ | (repeat' (first | exact MLe.nil | exact MLe.refl _ | refine MLe.cons _ ?_ | refine MLe.drop _ ?_)))
              first | (simp_all; done) | (simp_all; omega)
        intro c4 h4
        refine go_code ?_
        refine c_ret ?_
        exact out_tmp rfl rfl (Le.refl _) (by first | exact MLe.none _ | exact MLe.refl _ | (repeat' (first | exact MLe.nil | exact MLe.refl _ | refine MLe.cons _ ?_ | refine MLe.drop _ ?_))) ⟨⟨_, h4, rfl⟩, rfl⟩
      · refine c_cond_t rfl ?_
        refine c_skip ?_
        refine go_code ?_
        refine c_seq ?_
        refine c_block ?_
        refine c_seq ?_
        obtain ⟨x, hx⟩ := getk (l := r) (i := k) (by omega)
        have hg := rws_get hx
        have hxl := hr x (List.mem_of_getElem? hx)
        have hn := totR_next hx
        have hlm : (x.ps.map iv).length = x.ps.length := by simp
        refine c_region ?_
        first | (refine AOps.st 25 rfl rfl rfl (op_index rfl te_58 rfl (.seq _ _) rfl rfl (hg) ?_)) | (refine AOps.st 25 rfl rfl rfl (op_index (i := 0) rfl te_58 rfl (.seq _ _) rfl rfl (by first | rfl | assumption) ?_)) | (refine AOps.st 25 rfl rfl rfl (op_index (i := 1) rfl te_58 rfl (.seq _ _) rfl rfl (by first | rfl | assumption) ?_)) | (refine AOps.st 25 rfl rfl rfl (op_index rfl te_58 rfl (.own _ _ _) rfl rfl (hg) ?_)) | (refine AOps.st 25 rfl rfl rfl (op_index (i := 0) rfl te_58 rfl (.own _ _ _) rfl rfl (by first | rfl | assumption) ?_)) | (refine AOps.st 25 rfl rfl rfl (op_index (i := 1) rfl te_58 rfl (.own _ _ _) rfl rfl (by first | rfl | assumption) ?_)) | (refine AOps.st 25 rfl rfl rfl (op_index_arr rfl te_58 rfl rfl rfl (by omega) ?_))
        first | (refine AOps.st 26 rfl rfl rfl (op_load_m (cs' := [_, _, _]) (i := 0) rfl ta_100 rfl rfl rfl rfl ?_)) | (refine AOps.st 26 rfl rfl rfl (op_load_m (cs' := [_, _, _]) (i := 1) rfl ta_100 rfl rfl rfl rfl ?_)) | (refine AOps.st 26 rfl rfl rfl (op_load_m (cs' := [_, _, _]) (i := 2) rfl ta_100 rfl rfl rfl rfl ?_)) | (refine AOps.st 26 rfl rfl rfl (op_load_m (cs' := [_, _, _]) (i := 3) rfl ta_100 rfl rfl rfl rfl ?_)) | (refine AOps.st 26 rfl rfl rfl (op_load_m (cs' := [_, _, _]) (i := 4) rfl ta_100 rfl rfl rfl rfl ?_)) | (refine AOps.st 26 rfl rfl rfl (op_load_m (cs' := [_, _, _]) (i := 5) rfl ta_100 rfl rfl rfl rfl ?_)) | (refine AOps.st 26 rfl rfl rfl (op_load_m (cs' := [_, _, _]) (i := 6) rfl ta_100 rfl rfl rfl rfl ?_)) | (refine AOps.st 26 rfl rfl rfl (op_load_m (cs' := [_, _, _]) (i := 7) rfl ta_100 rfl rfl rfl rfl ?_)) | (refine AOps.st 26 rfl rfl rfl (op_load_m (cs' := [_, _, _]) (i := 8) rfl ta_100 rfl rfl rfl rfl ?_)) | (refine AOps.st 26 rfl rfl rfl (op_load_m (cs' := [_, _, _]) (i := 9) rfl ta_100 rfl rfl rfl rfl ?_)) | (refine AOps.st 26 rfl rfl rfl (op_load_c (cs' := [_, _, _]) rfl ta_100 rfl rfl rfl ?_))
        refine AOps.st 9 rfl rfl rfl (op_alloce (cs' := [_, _, _]) rfl tz_100 rfl rfl ?_); intro b9
        first | (refine AOps.st0 rfl rfl (op_store (cs' := [_, _, _]) (i := 0) rfl ts_100 rfl rfl rfl rfl rfl (Nat.le_of_ble_eq_true rfl) rfl ?_)) | (refine AOps.st0 rfl rfl (op_store (cs' := [_, _, _]) (i := 1) rfl ts_100 rfl rfl rfl rfl rfl (Nat.le_of_ble_eq_true rfl) rfl ?_)) | (refine AOps.st0 rfl rfl (op_store (cs' := [_, _, _]) (i := 2) rfl ts_100 rfl rfl rfl rfl rfl (Nat.le_of_ble_eq_true rfl) rfl ?_)) | (refine AOps.st0 rfl rfl (op_store (cs' := [_, _, _]) (i := 3) rfl ts_100 rfl rfl rfl rfl rfl (Nat.le_of_ble_eq_true rfl) rfl ?_)) | (refine AOps.st0 rfl rfl (op_store (cs' := [_, _, _]) (i := 4) rfl ts_100 rfl rfl rfl rfl rfl (Nat.le_of_ble_eq_true rfl) rfl ?_)) | (refine AOps.st0 rfl rfl (op_store (cs' := [_, _, _]) (i := 5) rfl ts_100 rfl rfl rfl rfl rfl (Nat.le_of_ble_eq_true rfl) rfl ?_)) | (refine AOps.st0 rfl rfl (op_store (cs' := [_, _, _]) (i := 6) rfl ts_100 rfl rfl rfl rfl rfl (Nat.le_of_ble_eq_true rfl) rfl ?_)) | (refine AOps.st0 rfl rfl (op_store (cs' := [_, _, _]) (i := 7) rfl ts_100 rfl rfl rfl rfl rfl (Nat.le_of_ble_eq_true rfl) rfl ?_)) | (refine AOps.st0 rfl rfl (op_store (cs' := [_, _, _]) (i := 8) rfl ts_100 rfl rfl rfl rfl rfl (Nat.le_of_ble_eq_true rfl) rfl ?_)) | (refine AOps.st0 rfl rfl (op_store (cs' := [_, _, _]) (i := 9) rfl ts_100 rfl rfl rfl rfl rfl (Nat.le_of_ble_eq_true rfl) rfl ?_))
        refine AOps.nil ?_
        refine go_code ?_
        refine c_region ?_
        refine AOps.st 27 rfl rfl rfl (op_move rfl rfl ?_)
        first | (refine AOps.st 28 rfl rfl rfl (op_fieldAddr_m rfl tf_100_2 rfl ?_)) | (refine AOps.st 28 rfl rfl rfl (op_fieldAddr_c rfl tf_100_2 rfl rfl ?_))
        first | (refine AOps.st 29 rfl rfl rfl (op_load_m1 (i := 0) rfl ta_34 rfl rfl rfl ?_)) | (refine AOps.st 29 rfl rfl rfl (op_load_m1 (i := 1) rfl ta_34 rfl rfl rfl ?_)) | (refine AOps.st 29 rfl rfl rfl (op_load_m1 (i := 2) rfl ta_34 rfl rfl rfl ?_)) | (refine AOps.st 29 rfl rfl rfl (op_load_m1 (i := 3) rfl ta_34 rfl rfl rfl ?_)) | (refine AOps.st 29 rfl rfl rfl (op_load_m1 (i := 4) rfl ta_34 rfl rfl rfl ?_)) | (refine AOps.st 29 rfl rfl rfl (op_load_m1 (i := 5) rfl ta_34 rfl rfl rfl ?_)) | (refine AOps.st 29 rfl rfl rfl (op_load_m1 (i := 6) rfl ta_34 rfl rfl rfl ?_)) | (refine AOps.st 29 rfl rfl rfl (op_load_m1 (i := 7) rfl ta_34 rfl rfl rfl ?_)) | (refine AOps.st 29 rfl rfl rfl (op_load_m1 (i := 8) rfl ta_34 rfl rfl rfl ?_)) | (refine AOps.st 29 rfl rfl rfl (op_load_m1 (i := 9) rfl ta_34 rfl rfl rfl ?_)) | (refine AOps.st 29 rfl rfl rfl (op_load_c1 rfl ta_34 rfl rfl ?_))
        first | (refine AOps.st 30 rfl rfl rfl (op_len rfl tu_34 rfl (.seq _ _) (fun n30 => ?_))) | (refine AOps.st 30 rfl rfl rfl (op_len rfl tu_34 rfl (.own _ _ _) (fun n30 => ?_))) | (refine AOps.st 30 rfl rfl rfl (op_len rfl tu_34 rfl (.nil 0) (fun n30 => ?_))) | (refine AOps.st 30 rfl rfl rfl (op_len_arr rfl tu_34 rfl ?_))
        first | (refine AOps.st 31 rfl rfl rfl (op_add rfl rfl rfl (IntWalk.i64_in _ (by omega)) ?_)) | (refine AOps.st 31 rfl rfl rfl (op_add rfl rfl rfl rfl ?_))
        refine AOps.st 5 rfl rfl rfl (op_assign rfl rfl ?_)
        refine AOps.nil ?_
        refine go_blk ?_
        refine go_code ?_
        refine c_region ?_
        first | (refine AOps.st 32 rfl rfl rfl (op_add rfl rfl rfl (IntWalk.i64_in _ (by omega)) ?_)) | (refine AOps.st 32 rfl rfl rfl (op_add rfl rfl rfl rfl ?_))
        refine AOps.st 23 rfl rfl rfl (op_move rfl rfl ?_)
        refine AOps.nil ?_
        refine go_lp ?_
        exact ⟨k + 1, ⟨by have := get_lt hx; omega, by rw [hn]; omega⟩, by have := get_lt hx; show r.length - (k + 1) < r.length - k; omega, SLe.cons rfl (Le.refl _) (SLe.cons rfl (Le.ieq (by rw [hn]; omega)) (by repeat' (first | exact SLe.nil _ | refine SLe.cons rfl ?_ ?_ | exact Le.refl _ | exact Le.own _ _ _ | exact Le.nil _))), (by first | exact MLe.none _ | exact MLe.refl _ | (repeat' (first | exact MLe.nil | exact MLe.refl _ | refine MLe.cons _ ?_ | refine MLe.drop _ ?_)))⟩
    · refine c_cond_t rfl ?_
      refine c_skip ?_
      refine go_code ?_
      refine c_seq ?_
      refine c_block ?_
      refine c_seq ?_
      obtain ⟨x, hx⟩ := getk (l := l) (i := k) (by omega)
      have hg := sls_get hx
      have hxl := hl x (List.mem_of_getElem? hx)
      have hn := tot_next hx
      refine c_region ?_
      first | (refine AOps.st 14 rfl rfl rfl (op_index rfl te_57 rfl (.seq _ _) rfl rfl (hg) ?_)) | (refine AOps.st 14 rfl rfl rfl (op_index (i := 0) rfl te_57 rfl (.seq _ _) rfl rfl (by first | rfl | assumption) ?_)) | (refine AOps.st 14 rfl rfl rfl (op_index (i := 1) rfl te_57 rfl (.seq _ _) rfl rfl (by first | rfl | assumption) ?_)) | (refine AOps.st 14 rfl rfl rfl (op_index rfl te_57 rfl (.own _ _ _) rfl rfl (hg) ?_)) | (refine AOps.st 14 rfl rfl rfl (op_index (i := 0) rfl te_57 rfl (.own _ _ _) rfl rfl (by first | rfl | assumption) ?_)) | (refine AOps.st 14 rfl rfl rfl (op_index (i := 1) rfl te_57 rfl (.own _ _ _) rfl rfl (by first | rfl | assumption) ?_)) | (refine AOps.st 14 rfl rfl rfl (op_index_arr rfl te_57 rfl rfl rfl (by omega) ?_))
      first | (refine AOps.st 15 rfl rfl rfl (op_load_m1 (i := 0) rfl ta_9 rfl rfl rfl ?_)) | (refine AOps.st 15 rfl rfl rfl (op_load_m1 (i := 1) rfl ta_9 rfl rfl rfl ?_)) | (refine AOps.st 15 rfl rfl rfl (op_load_m1 (i := 2) rfl ta_9 rfl rfl rfl ?_)) | (refine AOps.st 15 rfl rfl rfl (op_load_m1 (i := 3) rfl ta_9 rfl rfl rfl ?_)) | (refine AOps.st 15 rfl rfl rfl (op_load_m1 (i := 4) rfl ta_9 rfl rfl rfl ?_)) | (refine AOps.st 15 rfl rfl rfl (op_load_m1 (i := 5) rfl ta_9 rfl rfl rfl ?_)) | (refine AOps.st 15 rfl rfl rfl (op_load_m1 (i := 6) rfl ta_9 rfl rfl rfl ?_)) | (refine AOps.st 15 rfl rfl rfl (op_load_m1 (i := 7) rfl ta_9 rfl rfl rfl ?_)) | (refine AOps.st 15 rfl rfl rfl (op_load_m1 (i := 8) rfl ta_9 rfl rfl rfl ?_)) | (refine AOps.st 15 rfl rfl rfl (op_load_m1 (i := 9) rfl ta_9 rfl rfl rfl ?_)) | (refine AOps.st 15 rfl rfl rfl (op_load_c1 rfl ta_9 rfl rfl ?_))
      refine AOps.st 7 rfl rfl rfl (op_assign rfl rfl ?_)
      refine AOps.nil ?_
      refine go_code ?_
      refine c_region ?_
      refine AOps.st 16 rfl rfl rfl (op_move rfl rfl ?_)
      refine AOps.st 17 rfl rfl rfl (op_move rfl rfl ?_)
      refine AOps.st 18 rfl rfl rfl (op_len_str rfl tu_9 rfl ?_)
      first | (refine AOps.st 19 rfl rfl rfl (op_add rfl rfl rfl (IntWalk.i64_in _ (by omega)) ?_)) | (refine AOps.st 19 rfl rfl rfl (op_add rfl rfl rfl rfl ?_))
      refine AOps.st 5 rfl rfl rfl (op_assign rfl rfl ?_)
      refine AOps.nil ?_
      refine go_blk ?_
      refine go_code ?_
      refine c_region ?_
      first | (refine AOps.st 20 rfl rfl rfl (op_add rfl rfl rfl (IntWalk.i64_in _ (by omega)) ?_)) | (refine AOps.st 20 rfl rfl rfl (op_add rfl rfl rfl rfl ?_))
      refine AOps.st 12 rfl rfl rfl (op_move rfl rfl ?_)
      refine AOps.nil ?_
      refine go_lp ?_
      exact ⟨k + 1, ⟨by have := get_lt hx; omega, by rw [hn]; omega⟩, by have := get_lt hx; show l.length - (k + 1) < l.length - k; omega, SLe.cons rfl (Le.refl _) (SLe.cons rfl (Le.ieq (by rw [hn]; omega)) (by repeat' (first | exact SLe.nil _ | refine SLe.cons rfl ?_ ?_ | exact Le.refl _ | exact Le.own _ _ _ | exact Le.nil _))), (by first | exact MLe.none _ | exact MLe.refl _ | (repeat' (first | exact MLe.nil | exact MLe.refl _ | refine MLe.cons _ ?_ | refine MLe.drop _ ?_)))⟩
  · refine ACall.enter Try.func27 rfl (by kernel_rfl) rfl (Nat.le_of_ble_eq_true rfl) ?_
    refine c_start ?_
    refine c_seq ?_
    refine c_region ?_
    refine AOps.st 4 rfl rfl rfl (op_assign rfl rfl ?_)
    refine AOps.nil ?_
    refine go_code ?_
    refine c_seq ?_
    refine c_region ?_
    refine AOps.st 5 rfl rfl rfl (op_assign rfl rfl ?_)
    refine AOps.nil ?_
    refine go_code ?_
    refine c_seq ?_
    refine c_seq ?_
    refine c_region ?_
    refine AOps.st 10 rfl rfl rfl (op_move rfl rfl ?_)
    first | (refine AOps.st 11 rfl rfl rfl (op_len rfl tu_57 rfl (.seq _ _) (fun n11 => ?_))) | (refine AOps.st 11 rfl rfl rfl (op_len rfl tu_57 rfl (.own _ _ _) (fun n11 => ?_))) | (refine AOps.st 11 rfl rfl rfl (op_len rfl tu_57 rfl (.nil 0) (fun n11 => ?_))) | (refine AOps.st 11 rfl rfl rfl (op_len_arr rfl tu_57 rfl ?_))
    refine AOps.st 12 rfl rfl rfl (op_move rfl rfl ?_)
    refine AOps.nil ?_
    refine go_code ?_
    refine c_block ?_
    apply c_loopkm [2, 3, 5, 6, 7, 8, 12, 13, 14, 15, 16, 17, 18, 19, 20] (σ := Nat × Int) (fun zz => match zz with | (k, n) => [(12, .val (.int .i64 k)), (5, .val (.int .i64 n))]) (fun zz => match zz with | (k, n) => k ≤ l.length) (fun zz => match zz with | (k, n) => l.length - k) ((0, 0))
    · repeat' (first | exact Drops.nil | apply Drops.keep rfl | apply Drops.skip rfl)
    · exact Nat.zero_le _
    · exact (by repeat' (first | exact SLe.nil _ | refine SLe.cons rfl ?_ ?_ | exact Le.refl _ | exact Le.own _ _ _ | exact Le.nil _))
    rintro ⟨k, n⟩ hI
    try dsimp only [List.cons_append, List.nil_append] at hI ⊢
    refine c_seq ?_
    refine c_region ?_
    refine AOps.st 13 rfl rfl rfl (op_lss rfl rfl rfl ?_); intro c13 h13
    refine AOps.nil ?_
    refine go_code ?_
    refine c_seq ?_
    rcases bool_split h13 with ⟨rfl, g13⟩ | ⟨rfl, g13⟩
    · refine c_cond_f rfl ?_
      refine c_exit ?_
      refine x_code ?_
      refine x_lp ?_
      refine x_here ?_
      refine go_code ?_
      refine c_seq ?_
      refine c_seq ?_
      refine c_region ?_
      refine AOps.st 21 rfl rfl rfl (op_move rfl rfl ?_)
      first | (refine AOps.st 22 rfl rfl rfl (op_len rfl tu_58 rfl (.seq _ _) (fun n22 => ?_))) | (refine AOps.st 22 rfl rfl rfl (op_len rfl tu_58 rfl (.own _ _ _) (fun n22 => ?_))) | (refine AOps.st 22 rfl rfl rfl (op_len rfl tu_58 rfl (.nil 0) (fun n22 => ?_))) | (refine AOps.st 22 rfl rfl rfl (op_len_arr rfl tu_58 rfl ?_))
      refine AOps.st 23 rfl rfl rfl (op_move rfl rfl ?_)
      refine AOps.nil ?_
      refine go_code ?_
      refine c_block ?_
      apply c_loopkm [2, 3, 5, 6, 7, 8, 9, 10, 11, 12, 13, 14, 15, 16, 17, 18, 19, 20, 23, 24, 25, 26, 27, 28, 29, 30, 31, 32] (σ := Nat × Int) (fun zz => match zz with | (k, n) => [(23, .val (.int .i64 k)), (5, .val (.int .i64 n))]) (fun zz => match zz with | (k, n) => k ≤ r.length) (fun zz => match zz with | (k, n) => r.length - k) ((0, n))
      · repeat' (first | exact Drops.nil | apply Drops.keep rfl | apply Drops.skip rfl)
      · exact Nat.zero_le _
      · exact (by repeat' (first | exact SLe.nil _ | refine SLe.cons rfl ?_ ?_ | exact Le.refl _ | exact Le.own _ _ _ | exact Le.nil _))
      rintro ⟨k, n⟩ hI
      try dsimp only [List.cons_append, List.nil_append] at hI ⊢
      refine c_seq ?_
      refine c_region ?_
      refine AOps.st 24 rfl rfl rfl (op_lss rfl rfl rfl ?_); intro c24 h24
      refine AOps.nil ?_
      refine go_code ?_
      refine c_seq ?_
      rcases bool_split h24 with ⟨rfl, g24⟩ | ⟨rfl, g24⟩
      · refine c_cond_f rfl ?_
        refine c_exit ?_
        refine x_code ?_
        refine x_lp ?_
        refine x_here ?_
        refine go_code ?_
        refine c_seq ?_
        refine c_bool 4 (False) ?_ _ _ rfl ?_
        · skip
          refine AOps.st 33 rfl rfl rfl (op_move rfl rfl ?_)
          refine AOps.st 34 rfl rfl rfl (op_leq rfl rfl rfl ?_); intro c34 h34
          refine AOps.st 35 rfl rfl rfl (op_move rfl rfl ?_)
          rcases bool_split h34 with ⟨rfl, g34⟩ | ⟨rfl, g34⟩
          · skip
            refine AOps.gf 36 rfl rfl rfl rfl rfl ?_
            refine AOps.gf 37 rfl rfl rfl rfl rfl ?_
            refine AOps.gf 38 rfl rfl rfl rfl rfl ?_
            refine AOps.st 39 rfl rfl rfl (op_pick rfl rfl rfl ?_)
            refine AOps.st 40 rfl rfl rfl (op_move rfl rfl ?_)
            refine AOps.gf 41 rfl rfl rfl rfl rfl ?_
            refine AOps.gf 42 rfl rfl rfl rfl rfl ?_
            refine AOps.gf 43 rfl rfl rfl rfl rfl ?_
            refine AOps.st 44 rfl rfl rfl (op_pick rfl rfl rfl ?_)
            refine AOps.st 4 rfl rfl rfl (op_assign rfl rfl ?_)
            refine AOps.nil ?_
            refine BoolQ.mk rfl ?_ (by repeat' (first | exact SLe.wo _ _ | exact SLe.refl _ | refine SLe.fresh rfl ?_)) (by first | exact MLe.none _ | exact MLe.refl _ | (repeat' (first | exact MLe.nil | exact MLe.refl _ | refine MLe.cons _ ?_ | refine MLe.drop _ ?_)))
            first | (simp_all; done) | (simp_all; omega)
          · skip
            refine AOps.gt 36 rfl rfl rfl rfl rfl (op_move rfl rfl ?_)
            first | (refine AOps.gt 37 rfl rfl rfl rfl rfl (op_len rfl tu_57 rfl (.seq _ _) (fun n37 => ?_))) | (refine AOps.gt 37 rfl rfl rfl rfl rfl (op_len rfl tu_57 rfl (.own _ _ _) (fun n37 => ?_))) | (refine AOps.gt 37 rfl rfl rfl rfl rfl (op_len rfl tu_57 rfl (.nil 0) (fun n37 => ?_))) | (refine AOps.gt 37 rfl rfl rfl rfl rfl (op_len_arr rfl tu_57 rfl ?_))
            refine AOps.gt 38 rfl rfl rfl rfl rfl (op_leq rfl rfl rfl ?_); intro c38 h38
            refine AOps.st 39 rfl rfl rfl (op_pick rfl rfl rfl ?_)
            refine AOps.st 40 rfl rfl rfl (op_move rfl rfl ?_)
            rcases bool_split h38 with ⟨rfl, g38⟩ | ⟨rfl, g38⟩
            · skip
              refine AOps.gf 41 rfl rfl rfl rfl rfl ?_
              refine AOps.gf 42 rfl rfl rfl rfl rfl ?_
              refine AOps.gf 43 rfl rfl rfl rfl rfl ?_
              refine AOps.st 44 rfl rfl rfl (op_pick rfl rfl rfl ?_)
              refine AOps.st 4 rfl rfl rfl (op_assign rfl rfl ?_)
              refine AOps.nil ?_
              refine BoolQ.mk rfl ?_ (by repeat' (first | exact SLe.wo _ _ | exact SLe.refl _ | refine SLe.fresh rfl ?_)) (by first | exact MLe.none _ | exact MLe.refl _ | (repeat' (first | exact MLe.nil | exact MLe.refl _ | refine MLe.cons _ ?_ | refine MLe.drop _ ?_)))
              first | (simp_all; done) | (simp_all; omega)
            · skip
              refine AOps.gt 41 rfl rfl rfl rfl rfl (op_move rfl rfl ?_)
              first | (refine AOps.gt 42 rfl rfl rfl rfl rfl (op_len rfl tu_58 rfl (.seq _ _) (fun n42 => ?_))) | (refine AOps.gt 42 rfl rfl rfl rfl rfl (op_len rfl tu_58 rfl (.own _ _ _) (fun n42 => ?_))) | (refine AOps.gt 42 rfl rfl rfl rfl rfl (op_len rfl tu_58 rfl (.nil 0) (fun n42 => ?_))) | (refine AOps.gt 42 rfl rfl rfl rfl rfl (op_len_arr rfl tu_58 rfl ?_))
              refine AOps.gt 43 rfl rfl rfl rfl rfl (op_leq rfl rfl rfl ?_); intro c43 h43
              refine AOps.st 44 rfl rfl rfl (op_pick rfl rfl rfl ?_)
              refine AOps.st 4 rfl rfl rfl (op_assign rfl rfl ?_)
              refine AOps.nil ?_
              refine BoolQ.mk rfl ?_ (by repeat' (first | exact SLe.wo _ _ | exact SLe.refl _ | refine SLe.fresh rfl ?_)) (by first | exact MLe.none _ | exact MLe.refl _ | (repeat' (first | exact MLe.nil | exact MLe.refl _ | refine MLe.cons _ ?_ | refine MLe.drop _ ?_)))
              first | (simp_all; done) | (simp_all; omega)
        intro c4 h4
        refine go_code ?_
        refine c_ret ?_
        exact out_tmp rfl rfl (Le.refl _) (by first | exact MLe.none _ | exact MLe.refl _ | (repeat' (first | exact MLe.nil | exact MLe.refl _ | refine MLe.cons _ ?_ | refine MLe.drop _ ?_))) ⟨⟨_, h4.trans ⟨False.elim, fun q => hq q.2⟩, rfl⟩, rfl⟩
      · refine c_cond_t rfl ?_
        refine c_skip ?_
        refine go_code ?_
        refine c_seq ?_
        refine c_block ?_
        refine c_seq ?_
        obtain ⟨x, hx⟩ := getk (l := r) (i := k) (by omega)
        have hg := rws_get hx
        refine c_region ?_
        first | (refine AOps.st 25 rfl rfl rfl (op_index rfl te_58 rfl (.seq _ _) rfl rfl (hg) ?_)) | (refine AOps.st 25 rfl rfl rfl (op_index (i := 0) rfl te_58 rfl (.seq _ _) rfl rfl (by first | rfl | assumption) ?_)) | (refine AOps.st 25 rfl rfl rfl (op_index (i := 1) rfl te_58 rfl (.seq _ _) rfl rfl (by first | rfl | assumption) ?_)) | (refine AOps.st 25 rfl rfl rfl (op_index rfl te_58 rfl (.own _ _ _) rfl rfl (hg) ?_)) | (refine AOps.st 25 rfl rfl rfl (op_index (i := 0) rfl te_58 rfl (.own _ _ _) rfl rfl (by first | rfl | assumption) ?_)) | (refine AOps.st 25 rfl rfl rfl (op_index (i := 1) rfl te_58 rfl (.own _ _ _) rfl rfl (by first | rfl | assumption) ?_)) | (refine AOps.st 25 rfl rfl rfl (op_index_arr rfl te_58 rfl rfl rfl (by omega) ?_))
        first | (refine AOps.st 26 rfl rfl rfl (op_load_m (cs' := [_, _, _]) (i := 0) rfl ta_100 rfl rfl rfl rfl ?_)) | (refine AOps.st 26 rfl rfl rfl (op_load_m (cs' := [_, _, _]) (i := 1) rfl ta_100 rfl rfl rfl rfl ?_)) | (refine AOps.st 26 rfl rfl rfl (op_load_m (cs' := [_, _, _]) (i := 2) rfl ta_100 rfl rfl rfl rfl ?_)) | (refine AOps.st 26 rfl rfl rfl (op_load_m (cs' := [_, _, _]) (i := 3) rfl ta_100 rfl rfl rfl rfl ?_)) | (refine AOps.st 26 rfl rfl rfl (op_load_m (cs' := [_, _, _]) (i := 4) rfl ta_100 rfl rfl rfl rfl ?_)) | (refine AOps.st 26 rfl rfl rfl (op_load_m (cs' := [_, _, _]) (i := 5) rfl ta_100 rfl rfl rfl rfl ?_)) | (refine AOps.st 26 rfl rfl rfl (op_load_m (cs' := [_, _, _]) (i := 6) rfl ta_100 rfl rfl rfl rfl ?_)) | (refine AOps.st 26 rfl rfl rfl (op_load_m (cs' := [_, _, _]) (i := 7) rfl ta_100 rfl rfl rfl rfl ?_)) | (refine AOps.st 26 rfl rfl rfl (op_load_m (cs' := [_, _, _]) (i := 8) rfl ta_100 rfl rfl rfl rfl ?_)) | (refine AOps.st 26 rfl rfl rfl (op_load_m (cs' := [_, _, _]) (i := 9) rfl ta_100 rfl rfl rfl rfl ?_)) | (refine AOps.st 26 rfl rfl rfl (op_load_c (cs' := [_, _, _]) rfl ta_100 rfl rfl rfl ?_))
        refine AOps.st 9 rfl rfl rfl (op_alloce (cs' := [_, _, _]) rfl tz_100 rfl rfl ?_); intro b9
        first | (refine AOps.st0 rfl rfl (op_store (cs' := [_, _, _]) (i := 0) rfl ts_100 rfl rfl rfl rfl rfl (Nat.le_of_ble_eq_true rfl) rfl ?_)) | (refine AOps.st0 rfl rfl (op_store (cs' := [_, _, _]) (i := 1) rfl ts_100 rfl rfl rfl rfl rfl (Nat.le_of_ble_eq_true rfl) rfl ?_)) | (refine AOps.st0 rfl rfl (op_store (cs' := [_, _, _]) (i := 2) rfl ts_100 rfl rfl rfl rfl rfl (Nat.le_of_ble_eq_true rfl) rfl ?_)) | (refine AOps.st0 rfl rfl (op_store (cs' := [_, _, _]) (i := 3) rfl ts_100 rfl rfl rfl rfl rfl (Nat.le_of_ble_eq_true rfl) rfl ?_)) | (refine AOps.st0 rfl rfl (op_store (cs' := [_, _, _]) (i := 4) rfl ts_100 rfl rfl rfl rfl rfl (Nat.le_of_ble_eq_true rfl) rfl ?_)) | (refine AOps.st0 rfl rfl (op_store (cs' := [_, _, _]) (i := 5) rfl ts_100 rfl rfl rfl rfl rfl (Nat.le_of_ble_eq_true rfl) rfl ?_)) | (refine AOps.st0 rfl rfl (op_store (cs' := [_, _, _]) (i := 6) rfl ts_100 rfl rfl rfl rfl rfl (Nat.le_of_ble_eq_true rfl) rfl ?_)) | (refine AOps.st0 rfl rfl (op_store (cs' := [_, _, _]) (i := 7) rfl ts_100 rfl rfl rfl rfl rfl (Nat.le_of_ble_eq_true rfl) rfl ?_)) | (refine AOps.st0 rfl rfl (op_store (cs' := [_, _, _]) (i := 8) rfl ts_100 rfl rfl rfl rfl rfl (Nat.le_of_ble_eq_true rfl) rfl ?_)) | (refine AOps.st0 rfl rfl (op_store (cs' := [_, _, _]) (i := 9) rfl ts_100 rfl rfl rfl rfl rfl (Nat.le_of_ble_eq_true rfl) rfl ?_))
        refine AOps.nil ?_
        refine go_code ?_
        refine c_region ?_
        refine AOps.st 27 rfl rfl rfl (op_move rfl rfl ?_)
        first | (refine AOps.st 28 rfl rfl rfl (op_fieldAddr_m rfl tf_100_2 rfl ?_)) | (refine AOps.st 28 rfl rfl rfl (op_fieldAddr_c rfl tf_100_2 rfl rfl ?_))
        first | (refine AOps.st 29 rfl rfl rfl (op_load_m1 (i := 0) rfl ta_34 rfl rfl rfl ?_)) | (refine AOps.st 29 rfl rfl rfl (op_load_m1 (i := 1) rfl ta_34 rfl rfl rfl ?_)) | (refine AOps.st 29 rfl rfl rfl (op_load_m1 (i := 2) rfl ta_34 rfl rfl rfl ?_)) | (refine AOps.st 29 rfl rfl rfl (op_load_m1 (i := 3) rfl ta_34 rfl rfl rfl ?_)) | (refine AOps.st 29 rfl rfl rfl (op_load_m1 (i := 4) rfl ta_34 rfl rfl rfl ?_)) | (refine AOps.st 29 rfl rfl rfl (op_load_m1 (i := 5) rfl ta_34 rfl rfl rfl ?_)) | (refine AOps.st 29 rfl rfl rfl (op_load_m1 (i := 6) rfl ta_34 rfl rfl rfl ?_)) | (refine AOps.st 29 rfl rfl rfl (op_load_m1 (i := 7) rfl ta_34 rfl rfl rfl ?_)) | (refine AOps.st 29 rfl rfl rfl (op_load_m1 (i := 8) rfl ta_34 rfl rfl rfl ?_)) | (refine AOps.st 29 rfl rfl rfl (op_load_m1 (i := 9) rfl ta_34 rfl rfl rfl ?_)) | (refine AOps.st 29 rfl rfl rfl (op_load_c1 rfl ta_34 rfl rfl ?_))
        first | (refine AOps.st 30 rfl rfl rfl (op_len rfl tu_34 rfl (.seq _ _) (fun n30 => ?_))) | (refine AOps.st 30 rfl rfl rfl (op_len rfl tu_34 rfl (.own _ _ _) (fun n30 => ?_))) | (refine AOps.st 30 rfl rfl rfl (op_len rfl tu_34 rfl (.nil 0) (fun n30 => ?_))) | (refine AOps.st 30 rfl rfl rfl (op_len_arr rfl tu_34 rfl ?_))
        first | (refine AOps.st 31 rfl rfl rfl (op_add rfl rfl rfl (IntWalk.i64_in _ (by omega)) ?_)) | (refine AOps.st 31 rfl rfl rfl (op_add rfl rfl rfl rfl ?_))
        refine AOps.st 5 rfl rfl rfl (op_assign rfl rfl ?_)
        refine AOps.nil ?_
        refine go_blk ?_
        refine go_code ?_
        refine c_region ?_
        first | (refine AOps.st 32 rfl rfl rfl (op_add rfl rfl rfl (IntWalk.i64_in _ (by omega)) ?_)) | (refine AOps.st 32 rfl rfl rfl (op_add rfl rfl rfl rfl ?_))
        refine AOps.st 23 rfl rfl rfl (op_move rfl rfl ?_)
        refine AOps.nil ?_
        refine go_lp ?_
        exact ⟨(k + 1, _), by have := get_lt hx; show k + 1 ≤ _; omega, by have := get_lt hx; show r.length - (k + 1) < r.length - k; omega, SLe.cons rfl (Le.refl _) (SLe.cons rfl (Le.refl _) (by repeat' (first | exact SLe.nil _ | refine SLe.cons rfl ?_ ?_ | exact Le.refl _ | exact Le.own _ _ _ | exact Le.nil _))), (by first | exact MLe.none _ | exact MLe.refl _ | (repeat' (first | exact MLe.nil | exact MLe.refl _ | refine MLe.cons _ ?_ | refine MLe.drop _ ?_)))⟩
    · refine c_cond_t rfl ?_
      refine c_skip ?_
      refine go_code ?_
      refine c_seq ?_
      refine c_block ?_
      refine c_seq ?_
      obtain ⟨x, hx⟩ := getk (l := l) (i := k) (by omega)
      have hg := sls_get hx
      refine c_region ?_
      first | (refine AOps.st 14 rfl rfl rfl (op_index rfl te_57 rfl (.seq _ _) rfl rfl (hg) ?_)) | (refine AOps.st 14 rfl rfl rfl (op_index (i := 0) rfl te_57 rfl (.seq _ _) rfl rfl (by first | rfl | assumption) ?_)) | (refine AOps.st 14 rfl rfl rfl (op_index (i := 1) rfl te_57 rfl (.seq _ _) rfl rfl (by first | rfl | assumption) ?_)) | (refine AOps.st 14 rfl rfl rfl (op_index rfl te_57 rfl (.own _ _ _) rfl rfl (hg) ?_)) | (refine AOps.st 14 rfl rfl rfl (op_index (i := 0) rfl te_57 rfl (.own _ _ _) rfl rfl (by first | rfl | assumption) ?_)) | (refine AOps.st 14 rfl rfl rfl (op_index (i := 1) rfl te_57 rfl (.own _ _ _) rfl rfl (by first | rfl | assumption) ?_)) | (refine AOps.st 14 rfl rfl rfl (op_index_arr rfl te_57 rfl rfl rfl (by omega) ?_))
      first | (refine AOps.st 15 rfl rfl rfl (op_load_m1 (i := 0) rfl ta_9 rfl rfl rfl ?_)) | (refine AOps.st 15 rfl rfl rfl (op_load_m1 (i := 1) rfl ta_9 rfl rfl rfl ?_)) | (refine AOps.st 15 rfl rfl rfl (op_load_m1 (i := 2) rfl ta_9 rfl rfl rfl ?_)) | (refine AOps.st 15 rfl rfl rfl (op_load_m1 (i := 3) rfl ta_9 rfl rfl rfl ?_)) | (refine AOps.st 15 rfl rfl rfl (op_load_m1 (i := 4) rfl ta_9 rfl rfl rfl ?_)) | (refine AOps.st 15 rfl rfl rfl (op_load_m1 (i := 5) rfl ta_9 rfl rfl rfl ?_)) | (refine AOps.st 15 rfl rfl rfl (op_load_m1 (i := 6) rfl ta_9 rfl rfl rfl ?_)) | (refine AOps.st 15 rfl rfl rfl (op_load_m1 (i := 7) rfl ta_9 rfl rfl rfl ?_)) | (refine AOps.st 15 rfl rfl rfl (op_load_m1 (i := 8) rfl ta_9 rfl rfl rfl ?_)) | (refine AOps.st 15 rfl rfl rfl (op_load_m1 (i := 9) rfl ta_9 rfl rfl rfl ?_)) | (refine AOps.st 15 rfl rfl rfl (op_load_c1 rfl ta_9 rfl rfl ?_))
      refine AOps.st 7 rfl rfl rfl (op_assign rfl rfl ?_)
      refine AOps.nil ?_
      refine go_code ?_
      refine c_region ?_
      refine AOps.st 16 rfl rfl rfl (op_move rfl rfl ?_)
      refine AOps.st 17 rfl rfl rfl (op_move rfl rfl ?_)
      refine AOps.st 18 rfl rfl rfl (op_len_str rfl tu_9 rfl ?_)
      first | (refine AOps.st 19 rfl rfl rfl (op_add rfl rfl rfl (IntWalk.i64_in _ (by omega)) ?_)) | (refine AOps.st 19 rfl rfl rfl (op_add rfl rfl rfl rfl ?_))
      refine AOps.st 5 rfl rfl rfl (op_assign rfl rfl ?_)
      refine AOps.nil ?_
      refine go_blk ?_
      refine go_code ?_
      refine c_region ?_
      first | (refine AOps.st 20 rfl rfl rfl (op_add rfl rfl rfl (IntWalk.i64_in _ (by omega)) ?_)) | (refine AOps.st 20 rfl rfl rfl (op_add rfl rfl rfl rfl ?_))
      refine AOps.st 12 rfl rfl rfl (op_move rfl rfl ?_)
      refine AOps.nil ?_
      refine go_lp ?_
      exact ⟨(k + 1, _), by have := get_lt hx; show k + 1 ≤ _; omega, by have := get_lt hx; show l.length - (k + 1) < l.length - k; omega, SLe.cons rfl (Le.refl _) (SLe.cons rfl (Le.refl _) (by repeat' (first | exact SLe.nil _ | refine SLe.cons rfl ?_ ?_ | exact Le.refl _ | exact Le.own _ _ _ | exact Le.nil _))), (by first | exact MLe.none _ | exact MLe.refl _ | (repeat' (first | exact MLe.nil | exact MLe.refl _ | refine MLe.cons _ ?_ | refine MLe.drop _ ?_)))⟩
end Go.Proofs.Ytecpnlhjjmcllaa
