/- tree.search.exp, tree.Free -/
import Derived.Test.YtjgjnheeohfmmaaB05n
namespace Go.Proofs.Ytjgjnheeohfmmaa
open Go.RowKit
theorem SM.start (b : Nat) : MImp [.loc b [.val (.slice none 0 0), .val (.slice none 0 0)]] [.loc b [.own (.slice none 0 0) 1 (strs []), .val (.slice none (strs []).length 0)], .own 9 1 (.slice none 0 0), .row 9 1 (.slice none (strs []).length 0) (strs [])] := fun B F Mf w x => by
  have h := (MImp.rowNil 9 1 [.own 9 1 (.slice none 0 0), .loc b [.val (.slice none 0 0), .val (.slice none 0 0)]]) B F Mf w (x.ownNil 9 1)
  have h2 : Inv B F (.row 9 1 (.slice none 0 0) [] :: .own 9 1 (.slice none 0 0) :: .loc b [.own (.slice none 0 0) 1 [], .val (.slice none 0 0)] :: Mf) w := by
    refine ⟨h.base, h.fix, fun r hr => ?_, ?_⟩
    · simp only [List.mem_cons] at hr
      rcases hr with rfl | rfl | rfl | hr
      · exact h.ok _ (by simp)
      · exact h.ok _ (by simp)
      · obtain ⟨h1, h2, vs, T, h3, h4, h5⟩ := h.ok (.loc b [.val (.slice none 0 0), .val (.slice none 0 0)]) (by simp)
        refine ⟨h1, h2, vs, T, h3, ?_, h5⟩
        cases h4 with
        | cons k ks =>
          cases k
          exact .cons (.own _ (.seq0 1 none 0 (fun _ => rfl))) ks
      · exact h.ok r (by simp [hr])
    · have := h.far
      rw [far_map] at this ⊢
      simpa [Res.blk] using this
  refine h2.perm ?_
  have e := List.reverse_perm [Res.loc b [.own (.slice none 0 0) 1 [], .val (.slice none 0 0)], .own 9 1 (.slice none 0 0), .row 9 1 (.slice none 0 0) []]
  exact e.append_right Mf
theorem MLe.left : ∀ A B : Mem, MLe (A ++ B) A
  | [], _ => MLe.none _
  | _ :: A, B => MLe.cons _ (MLe.left A B)
theorem Bi.room {x : Bi} {bs : List Bi} (h : x ∈ bs) : x.e.w + bs.length ≤ Bi.ws bs := by
  induction bs with
  | nil => simp at h
  | cons y bs ih =>
    have h2 := Bi.len_ws bs
    rw [Bi.ws, List.length_cons]
    rcases List.mem_cons.1 h with rfl | h
    · cases x; simp only [Bi.e, Bi.w]; omega
    · have := ih h
      cases y; rw [Bi.w]; omega
set_option maxHeartbeats 4000000 in
set_option maxRecDepth 100000 in
theorem exp_c (e : Ex) : ∀ (b : Nat) (bd : List Txt), bd.length + e.w ≤ 10000000000 → Acts 95 [.ptr b 0, .agg e.cells] b bd (e.fr bd) e.w := by
  obtain ⟨k, s, n, ⟨tk, ts, tn, tks⟩, ks, al, bs, p⟩ := e
  intro b bd hb
  have IHk : ∀ x ∈ ks, ∀ bd' : List Txt, bd'.length + x.w ≤ 10000000000 → Acts 95 [.ptr b 0, .agg x.cells] b bd' (x.fr bd') x.w := fun x hx bd' h => exp_c x b bd' h
  have IHb : ∀ x ∈ bs, ∀ bd' : List Txt, bd'.length + x.e.w ≤ 10000000000 → Acts 95 [.ptr b 0, .agg x.e.cells] b bd' (x.e.fr bd') x.e.w := fun x hx bd' h => exp_c x.e b bd' h
  have IHa : ∀ x ∈ al, ∀ bd' : List Txt, bd'.length + x.e.w ≤ 10000000000 → Acts 95 [.ptr b 0, .agg x.e.cells] b bd' (x.e.fr bd') x.e.w := fun x hx bd' h => exp_c x.e b bd' h
  have HK : ∀ bd' : List Txt, bd'.length + Ex.ws ks ≤ 10000000000 → Acts 122 [.cptr [.ptr b 0], .cptr (Ex.mk k s n ⟨tk, ts, tn, tks⟩ ks al bs p).cells] b bd' (Ex.frs ks bd') (Ex.ws ks) := fun bd' h =>
    kids_act b bd' _ rfl (fun x hx => IHk x hx bd' (by have := sum_mem (List.mem_map.2 ⟨x, hx, rfl⟩ : x.w ∈ ks.map Ex.w); rw [Ex.ws_map] at h; omega))
  have HB : ∀ bd' : List Txt, bd'.length + Bi.ws bs ≤ 10000000000 + bs.length → Acts 121 [.cptr (Ex.mk k s n ⟨tk, ts, tn, tks⟩ ks al bs p).cells, .cptr [.ptr b 0]] b bd' (Bi.frs bs bd') (Bi.ws bs) := fun bd' h =>
    binds_act b bd' _ rfl (fun x hx => IHb x hx bd' (by have := Bi.room hx; omega))
  have HA : ∀ x ∈ al, ∀ bd' : List Txt, bd'.length + x.e.w ≤ 10000000000 → Acts 126 [.cptr [.ptr b 0], .cptr x.cells] b bd' (x.e.fr bd') x.e.w := fun x hx bd' h => alt_act b bd' x (IHa x hx bd' h)
  clear IHk IHb IHa
  intro out M hM hw
  rw [Ex.w] at hb hw
  have hbl := Bi.len_ws bs
  rw [Ex.fr]
  have ho1 : (if k = 3 ∧ s ∉ bd ∧ s ∉ out then out ++ [s] else out).length ≤ out.length + 1 := by split <;> simp
  generalize hO : (if k = 3 ∧ s ∉ bd ∧ s ∉ out then out ++ [s] else out) = o1 at *
  obtain ⟨uo, ao, cap, rfl⟩ := hM
  have hl1 := Bi.cellss_len bs
  have hl2 := Al.cellss_len al
  have hlo := strs_len out
  have hln : (Bi.names bs).length = bs.length := by simp
  refine ACall.enter Try.func95 rfl (by kernel_rfl) rfl (Nat.le_of_ble_eq_true rfl) ?_
  refine c_start ?_
  refine c_lena (t := 1) (j := 8) rfl rfl (.seq _ _) (fun hmax => ?_)
  refine c_lena (t := 1) (j := 9) rfl rfl (.seq _ _) (fun hmax2 => ?_)
  refine c_seq ?_
  refine c_region ?_
  refine AOps.st 2 rfl rfl rfl (op_boxc (cs' := [_]) rfl rfl rfl rfl ?_)
  refine AOps.st 3 rfl rfl rfl (op_boxc (cs' := [_, _, _, _, _, _, _, _, _, _, _]) rfl rfl rfl rfl ?_)
  refine AOps.nil ?_
  refine go_code ?_
  refine c_seq ?_
  refine c_seq ?_
  refine c_boold 33 (k = 3 ∧ s ∉ bd ∧ s ∉ out) tmix rfl ?_ _ _ rfl ?_
  · skip
    refine DOps.st 11 rfl rfl (op_fieldAddr_c rfl tf_60_0 rfl rfl ⟨rfl, rfl⟩) ?_
    refine DOps.st 12 rfl rfl (op_load_c1 rfl ta_3 rfl rfl ⟨rfl, rfl⟩) ?_
    refine DOps.cm 13 rfl rfl (fun _ q => op_eql rfl rfl rfl q) ?_; intro c13 h13
    refine DOps.st 14 rfl rfl (op_move rfl rfl ⟨rfl, rfl⟩) ?_
    rcases bool_split h13 with ⟨rfl, g13⟩ | ⟨rfl, g13⟩
    · skip
      refine DOps.gf 15 rfl rfl rfl rfl ?_
      refine DOps.gf 16 rfl rfl rfl rfl ?_
      refine DOps.gf 17 rfl rfl rfl rfl ?_
      refine DOps.gf 18 rfl rfl rfl rfl ?_
      refine DOps.gf 19 rfl rfl rfl rfl ?_
      refine DOps.gf 20 rfl rfl rfl rfl ?_
      refine DOps.gf 21 rfl rfl rfl rfl ?_
      refine DOps.gf 22 rfl rfl rfl rfl ?_
      refine DOps.st 23 rfl rfl (op_pick rfl rfl rfl ⟨rfl, rfl⟩) ?_
      refine DOps.st 24 rfl rfl (op_move rfl rfl ⟨rfl, rfl⟩) ?_
      refine DOps.gf 25 rfl rfl rfl rfl ?_
      refine DOps.gf 26 rfl rfl rfl rfl ?_
      refine DOps.gf 27 rfl rfl rfl rfl ?_
      refine DOps.gf 28 rfl rfl rfl rfl ?_
      refine DOps.gf 29 rfl rfl rfl rfl ?_
      refine DOps.gf 30 rfl rfl rfl rfl ?_
      refine DOps.gf 31 rfl rfl rfl rfl ?_
      refine DOps.gf 32 rfl rfl rfl rfl ?_
      refine DOps.st 33 rfl rfl (op_pick rfl rfl rfl ⟨rfl, rfl⟩) ?_
      show BoolQ _ _ _ _ _ _
      refine BoolQ.mk rfl ?_ (by repeat' (first | exact SLe.wo _ _ | exact SLe.refl _ | refine SLe.fresh rfl ?_)) (by first | exact MLe.none _ | exact MLe.refl _ | (repeat' (first | exact MLe.nil | exact MLe.refl _ | refine MLe.cons _ ?_ | refine MLe.drop _ ?_)))
      simp_all
    · skip
      refine DOps.gt 15 rfl rfl rfl rfl (op_load_c1 rfl ta_116 rfl rfl ⟨rfl, rfl⟩) ?_
      refine DOps.gt 16 rfl rfl rfl rfl (op_nilCheck_m rfl rfl ⟨rfl, rfl⟩) ?_
      refine DOps.gt 17 rfl rfl rfl rfl (op_fieldAddr_m rfl tf_118_1 rfl ⟨rfl, rfl⟩) ?_
      refine DOps.gt 18 rfl rfl rfl rfl (op_load_m1 (i := 0) rfl ta_27 rfl rfl rfl ⟨rfl, rfl⟩) ?_
      refine DOps.gt 19 rfl rfl rfl rfl (op_fieldAddr_c rfl tf_60_1 rfl rfl ⟨rfl, rfl⟩) ?_
      refine DOps.gt 20 rfl rfl rfl rfl (op_load_c1 rfl ta_9 rfl rfl ⟨rfl, rfl⟩) ?_
      refine DOps.gtc 21 rfl rfl rfl rfl (fun _ q => op_callbrb (xs := [.tmp 18, .tmp 20]) 2 rfl rfl rfl (ContainsS_c bd s) (by repeat' (first | exact Bor.nil | refine Bor.row ?_ | refine Bor.le (Le.refl _) ?_ | refine Bor.le (Le.own _ _ _) ?_)) q) ?_; intro c21 h21
      refine DOps.gtc 22 rfl rfl rfl rfl (fun _ q => op_notc rfl rfl q) ?_; intro c22 h22
      try replace h22 := nott h22 h21
      refine DOps.st 23 rfl rfl (op_pick rfl rfl rfl ⟨rfl, rfl⟩) ?_
      refine DOps.st 24 rfl rfl (op_move rfl rfl ⟨rfl, rfl⟩) ?_
      rcases bool_split h22 with ⟨rfl, g22⟩ | ⟨rfl, g22⟩
      · skip
        refine DOps.gf 25 rfl rfl rfl rfl ?_
        refine DOps.gf 26 rfl rfl rfl rfl ?_
        refine DOps.gf 27 rfl rfl rfl rfl ?_
        refine DOps.gf 28 rfl rfl rfl rfl ?_
        refine DOps.gf 29 rfl rfl rfl rfl ?_
        refine DOps.gf 30 rfl rfl rfl rfl ?_
        refine DOps.gf 31 rfl rfl rfl rfl ?_
        refine DOps.gf 32 rfl rfl rfl rfl ?_
        refine DOps.st 33 rfl rfl (op_pick rfl rfl rfl ⟨rfl, rfl⟩) ?_
        show BoolQ _ _ _ _ _ _
        refine BoolQ.mk rfl ?_ (by repeat' (first | exact SLe.wo _ _ | exact SLe.refl _ | refine SLe.fresh rfl ?_)) (by first | exact MLe.none _ | exact MLe.refl _ | (repeat' (first | exact MLe.nil | exact MLe.refl _ | refine MLe.cons _ ?_ | refine MLe.drop _ ?_)))
        simp_all
      · skip
        refine DOps.gt 25 rfl rfl rfl rfl (op_load_c1 rfl ta_116 rfl rfl ⟨rfl, rfl⟩) ?_
        refine DOps.gt 26 rfl rfl rfl rfl (op_nilCheck_m rfl rfl ⟨rfl, rfl⟩) ?_
        refine DOps.gt 27 rfl rfl rfl rfl (op_fieldAddr_m rfl tf_118_0 rfl ⟨rfl, rfl⟩) ?_
        refine DOps.gt 28 rfl rfl rfl rfl (op_load_m1 (i := 0) rfl ta_27 rfl rfl rfl ⟨rfl, rfl⟩) ?_
        refine DOps.gt 29 rfl rfl rfl rfl (op_fieldAddr_c rfl tf_60_1 rfl rfl ⟨rfl, rfl⟩) ?_
        refine DOps.gt 30 rfl rfl rfl rfl (op_load_c1 rfl ta_9 rfl rfl ⟨rfl, rfl⟩) ?_
        refine DOps.gtc 31 rfl rfl rfl rfl (fun _ q => op_callb (xs := [.tmp 28, .tmp 30]) rfl rfl (ContainsS_c out s) (by first | exact Les.refl _ | (repeat' (first | exact Les.refl _ | refine Les.cons ?_ ?_ | exact Le.refl _ | exact Le.own _ _ _ | exact Le.nil _ | refine Le.agg ?_))) q) ?_; intro c31 h31
        refine DOps.gtc 32 rfl rfl rfl rfl (fun _ q => op_notc rfl rfl q) ?_; intro c32 h32
        try replace h32 := nott h32 h31
        refine DOps.st 33 rfl rfl (op_pick rfl rfl rfl ⟨rfl, rfl⟩) ?_
        show BoolQ _ _ _ _ _ _
        refine BoolQ.mk rfl ?_ (by repeat' (first | exact SLe.wo _ _ | exact SLe.refl _ | refine SLe.fresh rfl ?_)) (by first | exact MLe.none _ | exact MLe.refl _ | (repeat' (first | exact MLe.nil | exact MLe.refl _ | refine MLe.cons _ ?_ | refine MLe.drop _ ?_)))
        simp_all
  intro c33 h33
  refine go_code ?_
  refine c_join (σ := Mem) (fun zz => match zz with | M => [(2, .cptr [.ptr b 0]), (3, .cptr (Ex.mk k s n ⟨tk, ts, tn, tks⟩ ks al bs p).cells)]) (fun zz => match zz with | M => M) (fun zz => match zz with | M => SM b o1 bd M) ?_ ?_
  · skip
    rcases bool_split h33 with ⟨rfl, g33⟩ | ⟨rfl, g33⟩
    · refine c_cond_f rfl ?_
      refine c_skip ?_
      refine go_lp ?_
      first | exact ⟨_, ⟨u42, ao, cap, by rw [← hO, if_pos g33, strs_app]; rfl⟩, (by repeat' (first | exact SLe.nil _ | refine SLe.cons rfl ?_ ?_ | exact Le.refl _ | exact Le.own _ _ _ | exact Le.nil _)), MLe.refl _⟩ | exact ⟨_, ⟨uo, ao, cap, by rw [← hO, if_neg g33]⟩, (by repeat' (first | exact SLe.nil _ | refine SLe.cons rfl ?_ ?_ | exact Le.refl _ | exact Le.own _ _ _ | exact Le.nil _)), MLe.refl _⟩
    · refine c_cond_t rfl ?_
      refine c_drawnE [0, 1, 2, 3, 4, 5, 6, 7, 8, 9, 10, 11] [8, 11] [[], [], [1], [1, 2], [1, 2, 3], [], [5], [5, 6], [1, 2, 3, 4, 5, 6, 7], [0, 1, 2, 3, 4, 5, 6, 7, 8], [0, 1, 2, 3, 4, 5, 6, 7, 8, 9], [0, 1, 2, 3, 4, 5, 6, 7, 8, 9, 10]] tmix rfl ?_
      first | (refine EOps.d 34 (some 0) (i := 0) rfl rfl rfl rfl rfl (op_load_m1 (i := 0) rfl ta_116 rfl rfl rfl ⟨rfl, rfl⟩) ?_) | (refine EOps.d 34 (some 1) (i := 0) rfl rfl rfl rfl rfl (op_load_m1 (i := 0) rfl ta_116 rfl rfl rfl ⟨rfl, rfl⟩) ?_) | (refine EOps.d 34 (some 2) (i := 0) rfl rfl rfl rfl rfl (op_load_m1 (i := 0) rfl ta_116 rfl rfl rfl ⟨rfl, rfl⟩) ?_) | (refine EOps.d 34 (some 3) (i := 0) rfl rfl rfl rfl rfl (op_load_m1 (i := 0) rfl ta_116 rfl rfl rfl ⟨rfl, rfl⟩) ?_) | (refine EOps.d 34 (some 4) (i := 0) rfl rfl rfl rfl rfl (op_load_m1 (i := 0) rfl ta_116 rfl rfl rfl ⟨rfl, rfl⟩) ?_) | (refine EOps.d 34 (some 5) (i := 0) rfl rfl rfl rfl rfl (op_load_m1 (i := 0) rfl ta_116 rfl rfl rfl ⟨rfl, rfl⟩) ?_) | (refine EOps.d 34 (none) (i := 0) rfl rfl rfl rfl rfl (op_load_c1 rfl ta_116 rfl rfl ⟨rfl, rfl⟩) ?_)
      first | (refine EOps.d 35 (some 0) (i := 1) rfl rfl rfl rfl rfl (op_load_m1 (i := 0) rfl ta_116 rfl rfl rfl ⟨rfl, rfl⟩) ?_) | (refine EOps.d 35 (some 1) (i := 1) rfl rfl rfl rfl rfl (op_load_m1 (i := 0) rfl ta_116 rfl rfl rfl ⟨rfl, rfl⟩) ?_) | (refine EOps.d 35 (some 2) (i := 1) rfl rfl rfl rfl rfl (op_load_m1 (i := 0) rfl ta_116 rfl rfl rfl ⟨rfl, rfl⟩) ?_) | (refine EOps.d 35 (some 3) (i := 1) rfl rfl rfl rfl rfl (op_load_m1 (i := 0) rfl ta_116 rfl rfl rfl ⟨rfl, rfl⟩) ?_) | (refine EOps.d 35 (some 4) (i := 1) rfl rfl rfl rfl rfl (op_load_m1 (i := 0) rfl ta_116 rfl rfl rfl ⟨rfl, rfl⟩) ?_) | (refine EOps.d 35 (some 5) (i := 1) rfl rfl rfl rfl rfl (op_load_m1 (i := 0) rfl ta_116 rfl rfl rfl ⟨rfl, rfl⟩) ?_) | (refine EOps.d 35 (none) (i := 1) rfl rfl rfl rfl rfl (op_load_c1 rfl ta_116 rfl rfl ⟨rfl, rfl⟩) ?_)
      refine EOps.d 36 (none) (i := 2) rfl rfl rfl rfl rfl (op_nilCheck_m rfl rfl ⟨rfl, rfl⟩) ?_
      refine EOps.d 37 (none) (i := 3) rfl rfl rfl rfl rfl (op_fieldAddr_m rfl tf_118_0 rfl ⟨rfl, rfl⟩) ?_
      refine EOps.d 38 (some 0) (i := 4) rfl rfl rfl rfl rfl (op_load_m1 (i := 0) rfl ta_27 rfl rfl rfl ⟨rfl, rfl⟩) ?_
      refine EOps.d 39 (none) (i := 5) rfl rfl rfl rfl rfl (op_fieldAddr_c rfl tf_60_1 rfl rfl ⟨rfl, rfl⟩) ?_
      first | (refine EOps.d 40 (some 0) (i := 6) rfl rfl rfl rfl rfl (op_load_m1 (i := 0) rfl ta_9 rfl rfl rfl ⟨rfl, rfl⟩) ?_) | (refine EOps.d 40 (some 1) (i := 6) rfl rfl rfl rfl rfl (op_load_m1 (i := 0) rfl ta_9 rfl rfl rfl ⟨rfl, rfl⟩) ?_) | (refine EOps.d 40 (some 2) (i := 6) rfl rfl rfl rfl rfl (op_load_m1 (i := 0) rfl ta_9 rfl rfl rfl ⟨rfl, rfl⟩) ?_) | (refine EOps.d 40 (some 3) (i := 6) rfl rfl rfl rfl rfl (op_load_m1 (i := 0) rfl ta_9 rfl rfl rfl ⟨rfl, rfl⟩) ?_) | (refine EOps.d 40 (some 4) (i := 6) rfl rfl rfl rfl rfl (op_load_m1 (i := 0) rfl ta_9 rfl rfl rfl ⟨rfl, rfl⟩) ?_) | (refine EOps.d 40 (some 5) (i := 6) rfl rfl rfl rfl rfl (op_load_m1 (i := 0) rfl ta_9 rfl rfl rfl ⟨rfl, rfl⟩) ?_) | (refine EOps.d 40 (none) (i := 6) rfl rfl rfl rfl rfl (op_load_c1 rfl ta_9 rfl rfl ⟨rfl, rfl⟩) ?_)
      refine EOps.d 41 (none) (i := 7) rfl rfl rfl rfl rfl (op_buildSlice (xs := [.tmp 40]) el_27 rfl rfl rfl rfl rfl rfl (Nat.le_of_ble_eq_true rfl) ⟨rfl, rfl⟩) ?_
      first | (refine EOps.w 0 (i := 8) rfl rfl rfl rfl rfl (op_append (i := 0) el_27 rfl rfl rfl rfl (.seq _ _) (by first | (simp; done) | (simp; omega) | omega) (fun u42 => ⟨_, rfl, ?_⟩))) | (refine EOps.w 1 (i := 8) rfl rfl rfl rfl rfl (op_append (i := 0) el_27 rfl rfl rfl rfl (.seq _ _) (by first | (simp; done) | (simp; omega) | omega) (fun u42 => ⟨_, rfl, ?_⟩)))
      refine EOps.d 43 (none) (i := 9) rfl rfl rfl rfl rfl (op_nilCheck_m rfl rfl ⟨rfl, rfl⟩) ?_
      refine EOps.d 44 (none) (i := 10) rfl rfl rfl rfl rfl (op_fieldAddr_m rfl tf_118_0 rfl ⟨rfl, rfl⟩) ?_
      refine EOps.w 0 (i := 11) rfl rfl rfl rfl rfl (op_store (i := 0) rfl ts_27 rfl rfl rfl rfl rfl (Nat.le_of_ble_eq_true rfl) rfl ⟨_, rfl, ?_⟩)
      show AGo _ _ _ _ _ _ _
      refine go_lp ?_
      first | exact ⟨_, ⟨u42, ao, cap, by rw [← hO, if_pos g33, strs_app]; rfl⟩, (by repeat' (first | exact SLe.nil _ | refine SLe.cons rfl ?_ ?_ | exact Le.refl _ | exact Le.own _ _ _ | exact Le.nil _)), MLe.refl _⟩ | exact ⟨_, ⟨uo, ao, cap, by rw [← hO, if_neg g33]⟩, (by repeat' (first | exact SLe.nil _ | refine SLe.cons rfl ?_ ?_ | exact Le.refl _ | exact Le.own _ _ _ | exact Le.nil _)), MLe.refl _⟩
  rintro M hI
  try dsimp only at hI ⊢
  have hS1 := hI
  refine go_code ?_
  refine c_seq ?_
  refine c_region ?_
  refine AOps.st 4 rfl rfl rfl (op_assign rfl rfl ?_)
  refine AOps.nil ?_
  refine go_code ?_
  refine c_seq ?_
  refine c_seq ?_
  refine c_region ?_
  refine AOps.st 45 rfl rfl rfl (op_fieldAddr_c rfl tf_60_6 rfl rfl ?_)
  refine AOps.st 46 rfl rfl rfl (op_load_c1 rfl ta_58 rfl rfl ?_)
  refine AOps.st 47 rfl rfl rfl (op_len rfl tu_58 rfl (.seq _ _) (fun n47 => ?_))
  refine AOps.st 48 rfl rfl rfl (op_move rfl rfl ?_)
  refine AOps.nil ?_
  refine go_code ?_
  refine c_block ?_
  refine ACode.ownNil (t := 4) 9 1 rfl ?_
  refine c_loop (σ := Nat × Value) (fun zz => match zz with | (i, u) => [(2, .cptr [.ptr b 0]), (3, .cptr (Ex.mk k s n ⟨tk, ts, tn, tks⟩ ks al bs p).cells), (4, .own u 1 (strs (Bi.names (bs.take i)))), (46, .seq 13 (Bi.cellss bs)), (47, .val (.int .i64 (Bi.cellss bs).length)), (48, .val (.int .i64 i))]) (fun zz => match zz with | (i, u) => .own 9 1 u :: M) (fun zz => match zz with | (i, u) => i ≤ bs.length) (fun zz => match zz with | (i, u) => bs.length - i) ((0, .slice none 0 0)) ?_ ?_ ?_ ?_
  · simp
  · exact (by repeat' (first | exact SLe.nil _ | refine SLe.cons rfl ?_ ?_ | exact Le.refl _ | exact Le.own _ _ _ | exact Le.nil _))
  · exact (by first | exact MLe.none _ | exact MLe.refl _ | (repeat' (first | exact MLe.nil | exact MLe.refl _ | refine MLe.cons _ ?_ | refine MLe.drop _ ?_)))
  rintro ⟨i, u⟩ hI
  try dsimp only at hI ⊢
  refine c_seq ?_
  refine c_region ?_
  refine AOps.st 49 rfl rfl rfl (op_lss rfl rfl rfl ?_); intro c49 h49
  refine AOps.nil ?_
  refine go_code ?_
  refine c_seq ?_
  rcases bool_split h49 with ⟨rfl, g49⟩ | ⟨rfl, g49⟩
  · refine c_cond_f rfl ?_
    refine c_exit ?_
    refine x_code ?_
    refine x_lp ?_
    refine x_here ?_
    refine go_code ?_
    refine c_seq ?_
    rw [List.take_of_length_le (show bs.length ≤ i from by omega)]
    refine c_region ?_
    refine AOps.st 58 rfl rfl rfl (op_makeFunc (fs := []) (cs := [.tmp 3, .tmp 2]) rfl rfl rfl ?_)
    refine AOps.st 7 rfl rfl rfl (op_alloce (cs' := [_]) rfl tz_1 rfl rfl ?_); intro b7
    refine AOps.st0 rfl rfl (op_store (cs' := [_]) (i := 0) rfl ts_1 rfl rfl rfl rfl rfl (Nat.le_of_ble_eq_true rfl) rfl ?_)
    refine AOps.nil ?_
    refine go_code ?_
    refine c_seq ?_
    refine c_fixl 7 0 rfl rfl ?_
    refine c_region ?_
    refine AOps.st 59 rfl rfl rfl (op_makeFunc (fs := []) (cs := [.tmp 2, .tmp 3]) rfl rfl rfl ?_)
    refine AOps.st 8 rfl rfl rfl (op_alloce (cs' := [_]) rfl tz_1 rfl rfl ?_); intro b8
    refine AOps.st0 rfl rfl (op_store (cs' := [_]) (i := 0) rfl ts_1 rfl rfl rfl rfl rfl (Nat.le_of_ble_eq_true rfl) rfl ?_)
    refine AOps.nil ?_
    refine go_code ?_
    refine c_seq ?_
    refine c_fixl 8 0 rfl rfl ?_
    have f1 := fun b1 b2 => Ex.frs_len ks b1 (Bi.frs bs b2 o1)
    have f2 := fun b2 => Bi.frs_len bs b2 o1
    have f3 := fun b1 b2 => Bi.frs_len bs b1 (Ex.frs ks b2 o1)
    have f4 := fun b2 => Ex.frs_len ks b2 o1
    refine c_join (σ := List Txt × Mem) (fun zz => match zz with | (o2, M) => [(2, .cptr [.ptr b 0]), (3, .cptr (Ex.mk k s n ⟨tk, ts, tn, tks⟩ ks al bs p).cells)]) (fun zz => match zz with | (o2, M) => M) (fun zz => match zz with | (o2, M) => o2 = (if k = 7 then (if n = 1 then Ex.frs ks (bd ++ Bi.names bs) (Bi.frs bs (bd ++ Bi.names bs) o1) else Ex.frs ks (bd ++ Bi.names bs) (Bi.frs bs bd o1)) else if k = 6 then Bi.frs bs bd (Ex.frs ks (bd ++ [s]) o1) else Bi.frs bs bd (Ex.frs ks bd o1)) ∧ o2.length ≤ o1.length + Ex.ws ks + Bi.ws bs ∧ SM b o2 bd M) ?_ ?_
    · skip
      refine c_block ?_
      refine c_seq ?_
      refine c_bool 64 (k = 7 ∧ n = 1) ?_ _ _ rfl ?_
      · skip
        refine AOps.st 65 rfl rfl rfl (op_fieldAddr_c rfl tf_60_0 rfl rfl ?_)
        refine AOps.st 66 rfl rfl rfl (op_load_c1 rfl ta_3 rfl rfl ?_)
        refine AOps.st 67 rfl rfl rfl (op_eql rfl rfl rfl ?_); intro c67 h67
        refine AOps.st 68 rfl rfl rfl (op_move rfl rfl ?_)
        rcases bool_split h67 with ⟨rfl, g67⟩ | ⟨rfl, g67⟩
        · skip
          refine AOps.gf 69 rfl rfl rfl rfl rfl ?_
          refine AOps.gf 70 rfl rfl rfl rfl rfl ?_
          refine AOps.gf 71 rfl rfl rfl rfl rfl ?_
          refine AOps.st 72 rfl rfl rfl (op_pick rfl rfl rfl ?_)
          refine AOps.st 64 rfl rfl rfl (op_assign rfl rfl ?_)
          refine AOps.nil ?_
          refine BoolQ.mk rfl ?_ (by repeat' (first | exact SLe.wo _ _ | exact SLe.refl _ | refine SLe.fresh rfl ?_)) (by first | exact MLe.none _ | exact MLe.refl _ | (repeat' (first | exact MLe.nil | exact MLe.refl _ | refine MLe.cons _ ?_ | refine MLe.drop _ ?_)))
          simp_all
        · skip
          refine AOps.gt 69 rfl rfl rfl rfl rfl (op_fieldAddr_c rfl tf_60_2 rfl rfl ?_)
          refine AOps.gt 70 rfl rfl rfl rfl rfl (op_load_c1 rfl ta_2 rfl rfl ?_)
          refine AOps.gt 71 rfl rfl rfl rfl rfl (op_eql rfl rfl rfl ?_); intro c71 h71
          refine AOps.st 72 rfl rfl rfl (op_pick rfl rfl rfl ?_)
          refine AOps.st 64 rfl rfl rfl (op_assign rfl rfl ?_)
          refine AOps.nil ?_
          refine BoolQ.mk rfl ?_ (by repeat' (first | exact SLe.wo _ _ | exact SLe.refl _ | refine SLe.fresh rfl ?_)) (by first | exact MLe.none _ | exact MLe.refl _ | (repeat' (first | exact MLe.nil | exact MLe.refl _ | refine MLe.cons _ ?_ | refine MLe.drop _ ?_)))
          simp_all
      intro c64 h64
      refine go_code ?_
      rcases bool_split h64 with ⟨rfl, g64⟩ | ⟨rfl, g64⟩
      · refine c_cond_f rfl ?_
        refine c_seq ?_
        refine c_region ?_
        refine AOps.st 78 rfl rfl rfl (op_fieldAddr_c rfl tf_60_0 rfl rfl ?_)
        refine AOps.st 79 rfl rfl rfl (op_load_c1 rfl ta_3 rfl rfl ?_)
        refine AOps.st 80 rfl rfl rfl (op_eql rfl rfl rfl ?_); intro c80 h80
        refine AOps.st 77 rfl rfl rfl (op_assign rfl rfl ?_)
        refine AOps.nil ?_
        refine go_code ?_
        rcases bool_split h80 with ⟨rfl, g80⟩ | ⟨rfl, g80⟩
        · refine c_cond_f rfl ?_
          refine c_seq ?_
          refine c_region ?_
          refine AOps.st 88 rfl rfl rfl (op_fieldAddr_c rfl tf_60_0 rfl rfl ?_)
          refine AOps.st 89 rfl rfl rfl (op_load_c1 rfl ta_3 rfl rfl ?_)
          refine AOps.st 90 rfl rfl rfl (op_eql rfl rfl rfl ?_); intro c90 h90
          refine AOps.st 87 rfl rfl rfl (op_assign rfl rfl ?_)
          refine AOps.nil ?_
          refine go_code ?_
          rcases bool_split h90 with ⟨rfl, g90⟩ | ⟨rfl, g90⟩
          · refine c_cond_f rfl ?_
            refine c_seq ?_
            refine c_region ?_
            first | (refine AOps.st 60 rfl rfl rfl (op_load_m1 (i := 0) rfl ta_1 rfl rfl rfl ?_)) | (refine AOps.st 60 rfl rfl rfl (op_load_m1 (i := 1) rfl ta_1 rfl rfl rfl ?_)) | (refine AOps.st 60 rfl rfl rfl (op_load_m1 (i := 2) rfl ta_1 rfl rfl rfl ?_)) | (refine AOps.st 60 rfl rfl rfl (op_load_m1 (i := 3) rfl ta_1 rfl rfl rfl ?_)) | (refine AOps.st 60 rfl rfl rfl (op_load_m1 (i := 4) rfl ta_1 rfl rfl rfl ?_)) | (refine AOps.st 60 rfl rfl rfl (op_load_m1 (i := 5) rfl ta_1 rfl rfl rfl ?_)) | (refine AOps.st 60 rfl rfl rfl (op_load_c1 rfl ta_1 rfl rfl ?_))
            refine AOps.st 61 rfl rfl rfl (op_callvm (xs := [])  [.own 9 1 u] rfl rfl rfl rfl (HK bd (by omega) o1 M hS1 (by omega)) (Les.refl _) (fun v61 M61 h61 => ?_))
            refine AOps.nil ?_
            refine go_code ?_
            refine c_region ?_
            first | (refine AOps.st 62 rfl rfl rfl (op_load_m1 (i := 0) rfl ta_1 rfl rfl rfl ?_)) | (refine AOps.st 62 rfl rfl rfl (op_load_m1 (i := 1) rfl ta_1 rfl rfl rfl ?_)) | (refine AOps.st 62 rfl rfl rfl (op_load_m1 (i := 2) rfl ta_1 rfl rfl rfl ?_)) | (refine AOps.st 62 rfl rfl rfl (op_load_m1 (i := 3) rfl ta_1 rfl rfl rfl ?_)) | (refine AOps.st 62 rfl rfl rfl (op_load_m1 (i := 4) rfl ta_1 rfl rfl rfl ?_)) | (refine AOps.st 62 rfl rfl rfl (op_load_m1 (i := 5) rfl ta_1 rfl rfl rfl ?_)) | (refine AOps.st 62 rfl rfl rfl (op_load_c1 rfl ta_1 rfl rfl ?_))
            refine AOps.st 63 rfl rfl rfl (op_callvm (xs := [])  [.own 9 1 u] rfl rfl rfl rfl (HB bd (by omega) _ M61 h61 (by have := f4 bd; omega)) (Les.refl _) (fun v63 M63 h63 => ?_))
            refine AOps.nil ?_
            refine go_blk ?_
            refine go_lp ?_
            first
            | exact ⟨(_, M76), ⟨by rw [if_pos g64.1, if_pos g64.2], by have := f1 (bd ++ Bi.names bs) (bd ++ Bi.names bs); have := f2 (bd ++ Bi.names bs); omega, h76⟩, (by repeat' (first | exact SLe.nil _ | refine SLe.cons rfl ?_ ?_ | exact Le.refl _ | exact Le.own _ _ _ | exact Le.nil _)), MLe.drop _ (MLe.refl _)⟩
            | exact ⟨(_, M86), ⟨by rw [if_pos g80, if_neg (fun q => g64 ⟨g80, q⟩)], by have := f1 (bd ++ Bi.names bs) bd; have := f2 bd; omega, h86⟩, (by repeat' (first | exact SLe.nil _ | refine SLe.cons rfl ?_ ?_ | exact Le.refl _ | exact Le.own _ _ _ | exact Le.nil _)), MLe.drop _ (MLe.refl _)⟩
            | exact ⟨(_, M98), ⟨by rw [if_neg g80, if_pos g90], by have := f3 bd (bd ++ [s]); have := f4 (bd ++ [s]); omega, h98⟩, (by repeat' (first | exact SLe.nil _ | refine SLe.cons rfl ?_ ?_ | exact Le.refl _ | exact Le.own _ _ _ | exact Le.nil _)), MLe.drop _ (MLe.refl _)⟩
            | exact ⟨(_, M63), ⟨by rw [if_neg g80, if_neg g90], by have := f3 bd bd; have := f4 bd; omega, h63⟩, (by repeat' (first | exact SLe.nil _ | refine SLe.cons rfl ?_ ?_ | exact Le.refl _ | exact Le.own _ _ _ | exact Le.nil _)), MLe.drop _ (MLe.refl _)⟩
          · refine c_cond_t rfl ?_
            refine c_seq ?_
            refine c_region ?_
            refine AOps.st 91 rfl rfl rfl (op_load_c1 rfl ta_116 rfl rfl ?_)
            refine AOps.st 92 rfl rfl rfl (op_fieldAddr_c rfl tf_60_1 rfl rfl ?_)
            refine AOps.st 93 rfl rfl rfl (op_load_c1 rfl ta_9 rfl rfl ?_)
            refine AOps.st 94 rfl rfl rfl (op_buildSlice (xs := [.tmp 93]) el_27 rfl rfl rfl rfl rfl rfl (Nat.le_of_ble_eq_true rfl) ?_)
            first | (refine AOps.st 95 rfl rfl rfl (op_load_m1 (i := 0) rfl ta_1 rfl rfl rfl ?_)) | (refine AOps.st 95 rfl rfl rfl (op_load_m1 (i := 1) rfl ta_1 rfl rfl rfl ?_)) | (refine AOps.st 95 rfl rfl rfl (op_load_m1 (i := 2) rfl ta_1 rfl rfl rfl ?_)) | (refine AOps.st 95 rfl rfl rfl (op_load_m1 (i := 3) rfl ta_1 rfl rfl rfl ?_)) | (refine AOps.st 95 rfl rfl rfl (op_load_m1 (i := 4) rfl ta_1 rfl rfl rfl ?_)) | (refine AOps.st 95 rfl rfl rfl (op_load_m1 (i := 5) rfl ta_1 rfl rfl rfl ?_)) | (refine AOps.st 95 rfl rfl rfl (op_load_c1 rfl ta_1 rfl rfl ?_))
            refine AOps.st 96 rfl rfl rfl (op_callm (xs := [.tmp 91, .tmp 94, .tmp 95])  [.own 9 1 u] rfl rfl rfl (under_c b bd [s] _ [] _ _ _ (by simp; omega) (HK (bd ++ [s]) (by simp; omega)) o1 M hS1 (by omega)) (by first | exact Les.refl _ | (repeat' (first | exact Les.refl _ | refine Les.cons ?_ ?_ | exact Le.refl _ | exact Le.own _ _ _ | exact Le.nil _ | refine Le.agg ?_))) (fun v96 M96 h96 => ?_))
            refine AOps.nil ?_
            refine go_code ?_
            refine c_region ?_
            first | (refine AOps.st 97 rfl rfl rfl (op_load_m1 (i := 0) rfl ta_1 rfl rfl rfl ?_)) | (refine AOps.st 97 rfl rfl rfl (op_load_m1 (i := 1) rfl ta_1 rfl rfl rfl ?_)) | (refine AOps.st 97 rfl rfl rfl (op_load_m1 (i := 2) rfl ta_1 rfl rfl rfl ?_)) | (refine AOps.st 97 rfl rfl rfl (op_load_m1 (i := 3) rfl ta_1 rfl rfl rfl ?_)) | (refine AOps.st 97 rfl rfl rfl (op_load_m1 (i := 4) rfl ta_1 rfl rfl rfl ?_)) | (refine AOps.st 97 rfl rfl rfl (op_load_m1 (i := 5) rfl ta_1 rfl rfl rfl ?_)) | (refine AOps.st 97 rfl rfl rfl (op_load_c1 rfl ta_1 rfl rfl ?_))
            refine AOps.st 98 rfl rfl rfl (op_callvm (xs := [])  [.own 9 1 u] rfl rfl rfl rfl (HB bd (by omega) _ M96 h96 (by have := f4 (bd ++ [s]); omega)) (Les.refl _) (fun v98 M98 h98 => ?_))
            refine AOps.nil ?_
            refine go_blk ?_
            refine go_lp ?_
            first
            | exact ⟨(_, M76), ⟨by rw [if_pos g64.1, if_pos g64.2], by have := f1 (bd ++ Bi.names bs) (bd ++ Bi.names bs); have := f2 (bd ++ Bi.names bs); omega, h76⟩, (by repeat' (first | exact SLe.nil _ | refine SLe.cons rfl ?_ ?_ | exact Le.refl _ | exact Le.own _ _ _ | exact Le.nil _)), MLe.drop _ (MLe.refl _)⟩
            | exact ⟨(_, M86), ⟨by rw [if_pos g80, if_neg (fun q => g64 ⟨g80, q⟩)], by have := f1 (bd ++ Bi.names bs) bd; have := f2 bd; omega, h86⟩, (by repeat' (first | exact SLe.nil _ | refine SLe.cons rfl ?_ ?_ | exact Le.refl _ | exact Le.own _ _ _ | exact Le.nil _)), MLe.drop _ (MLe.refl _)⟩
            | exact ⟨(_, M98), ⟨by rw [if_neg g80, if_pos g90], by have := f3 bd (bd ++ [s]); have := f4 (bd ++ [s]); omega, h98⟩, (by repeat' (first | exact SLe.nil _ | refine SLe.cons rfl ?_ ?_ | exact Le.refl _ | exact Le.own _ _ _ | exact Le.nil _)), MLe.drop _ (MLe.refl _)⟩
            | exact ⟨(_, M63), ⟨by rw [if_neg g80, if_neg g90], by have := f3 bd bd; have := f4 bd; omega, h63⟩, (by repeat' (first | exact SLe.nil _ | refine SLe.cons rfl ?_ ?_ | exact Le.refl _ | exact Le.own _ _ _ | exact Le.nil _)), MLe.drop _ (MLe.refl _)⟩
        · refine c_cond_t rfl ?_
          refine c_seq ?_
          refine c_region ?_
          first | (refine AOps.st 81 rfl rfl rfl (op_load_m1 (i := 0) rfl ta_1 rfl rfl rfl ?_)) | (refine AOps.st 81 rfl rfl rfl (op_load_m1 (i := 1) rfl ta_1 rfl rfl rfl ?_)) | (refine AOps.st 81 rfl rfl rfl (op_load_m1 (i := 2) rfl ta_1 rfl rfl rfl ?_)) | (refine AOps.st 81 rfl rfl rfl (op_load_m1 (i := 3) rfl ta_1 rfl rfl rfl ?_)) | (refine AOps.st 81 rfl rfl rfl (op_load_m1 (i := 4) rfl ta_1 rfl rfl rfl ?_)) | (refine AOps.st 81 rfl rfl rfl (op_load_m1 (i := 5) rfl ta_1 rfl rfl rfl ?_)) | (refine AOps.st 81 rfl rfl rfl (op_load_c1 rfl ta_1 rfl rfl ?_))
          refine AOps.st 82 rfl rfl rfl (op_callvm (xs := [])  [.own 9 1 u] rfl rfl rfl rfl (HB bd (by omega) o1 M hS1 (by omega)) (Les.refl _) (fun v82 M82 h82 => ?_))
          refine AOps.nil ?_
          refine go_code ?_
          refine c_region ?_
          refine AOps.st 83 rfl rfl rfl (op_load_c1 rfl ta_116 rfl rfl ?_)
          refine AOps.st 84 rfl rfl rfl (op_move rfl rfl ?_)
          first | (refine AOps.st 85 rfl rfl rfl (op_load_m1 (i := 0) rfl ta_1 rfl rfl rfl ?_)) | (refine AOps.st 85 rfl rfl rfl (op_load_m1 (i := 1) rfl ta_1 rfl rfl rfl ?_)) | (refine AOps.st 85 rfl rfl rfl (op_load_m1 (i := 2) rfl ta_1 rfl rfl rfl ?_)) | (refine AOps.st 85 rfl rfl rfl (op_load_m1 (i := 3) rfl ta_1 rfl rfl rfl ?_)) | (refine AOps.st 85 rfl rfl rfl (op_load_m1 (i := 4) rfl ta_1 rfl rfl rfl ?_)) | (refine AOps.st 85 rfl rfl rfl (op_load_m1 (i := 5) rfl ta_1 rfl rfl rfl ?_)) | (refine AOps.st 85 rfl rfl rfl (op_load_c1 rfl ta_1 rfl rfl ?_))
          refine AOps.st 86 rfl rfl rfl (op_callm (xs := [.tmp 83, .tmp 84, .tmp 85])  [.own 9 1 u] rfl rfl rfl (under_c b bd (Bi.names bs) _ [] _ _ _ (by omega) (HK (bd ++ Bi.names bs) (by rw [List.length_append, hln]; omega)) _ M82 h82 (by have := f2 bd; omega)) (by first | exact Les.refl _ | (repeat' (first | exact Les.refl _ | refine Les.cons ?_ ?_ | exact Le.refl _ | exact Le.own _ _ _ | exact Le.nil _ | refine Le.agg ?_))) (fun v86 M86 h86 => ?_))
          refine AOps.nil ?_
          refine go_blk ?_
          refine go_lp ?_
          first
          | exact ⟨(_, M76), ⟨by rw [if_pos g64.1, if_pos g64.2], by have := f1 (bd ++ Bi.names bs) (bd ++ Bi.names bs); have := f2 (bd ++ Bi.names bs); omega, h76⟩, (by repeat' (first | exact SLe.nil _ | refine SLe.cons rfl ?_ ?_ | exact Le.refl _ | exact Le.own _ _ _ | exact Le.nil _)), MLe.drop _ (MLe.refl _)⟩
          | exact ⟨(_, M86), ⟨by rw [if_pos g80, if_neg (fun q => g64 ⟨g80, q⟩)], by have := f1 (bd ++ Bi.names bs) bd; have := f2 bd; omega, h86⟩, (by repeat' (first | exact SLe.nil _ | refine SLe.cons rfl ?_ ?_ | exact Le.refl _ | exact Le.own _ _ _ | exact Le.nil _)), MLe.drop _ (MLe.refl _)⟩
          | exact ⟨(_, M98), ⟨by rw [if_neg g80, if_pos g90], by have := f3 bd (bd ++ [s]); have := f4 (bd ++ [s]); omega, h98⟩, (by repeat' (first | exact SLe.nil _ | refine SLe.cons rfl ?_ ?_ | exact Le.refl _ | exact Le.own _ _ _ | exact Le.nil _)), MLe.drop _ (MLe.refl _)⟩
          | exact ⟨(_, M63), ⟨by rw [if_neg g80, if_neg g90], by have := f3 bd bd; have := f4 bd; omega, h63⟩, (by repeat' (first | exact SLe.nil _ | refine SLe.cons rfl ?_ ?_ | exact Le.refl _ | exact Le.own _ _ _ | exact Le.nil _)), MLe.drop _ (MLe.refl _)⟩
      · refine c_cond_t rfl ?_
        refine c_region ?_
        refine AOps.st 73 rfl rfl rfl (op_load_c1 rfl ta_116 rfl rfl ?_)
        refine AOps.st 74 rfl rfl rfl (op_move rfl rfl ?_)
        refine AOps.st 75 rfl rfl rfl (op_makeFunc (fs := []) (cs := [.tmp 7, .tmp 8]) rfl rfl rfl ?_)
        refine AOps.st 76 rfl rfl rfl (op_callm (xs := [.tmp 73, .tmp 74, .tmp 75])  [.own 9 1 u] rfl rfl rfl (under_c b bd (Bi.names bs) _ [] _ _ _ (by omega) (both_act b (bd ++ Bi.names bs) _ _ _ _ _ _ _ _ (Bi.frs_len bs _) (HB (bd ++ Bi.names bs) (by rw [List.length_append, hln]; omega)) (HK (bd ++ Bi.names bs) (by rw [List.length_append, hln]; omega))) o1 M hS1 (by omega)) (by first | exact Les.refl _ | (repeat' (first | exact Les.refl _ | refine Les.cons ?_ ?_ | exact Le.refl _ | exact Le.own _ _ _ | exact Le.nil _ | refine Le.agg ?_))) (fun v76 M76 h76 => ?_))
        refine AOps.nil ?_
        refine go_blk ?_
        refine go_lp ?_
        first
        | exact ⟨(_, M76), ⟨by rw [if_pos g64.1, if_pos g64.2], by have := f1 (bd ++ Bi.names bs) (bd ++ Bi.names bs); have := f2 (bd ++ Bi.names bs); omega, h76⟩, (by repeat' (first | exact SLe.nil _ | refine SLe.cons rfl ?_ ?_ | exact Le.refl _ | exact Le.own _ _ _ | exact Le.nil _)), MLe.drop _ (MLe.refl _)⟩
        | exact ⟨(_, M86), ⟨by rw [if_pos g80, if_neg (fun q => g64 ⟨g80, q⟩)], by have := f1 (bd ++ Bi.names bs) bd; have := f2 bd; omega, h86⟩, (by repeat' (first | exact SLe.nil _ | refine SLe.cons rfl ?_ ?_ | exact Le.refl _ | exact Le.own _ _ _ | exact Le.nil _)), MLe.drop _ (MLe.refl _)⟩
        | exact ⟨(_, M98), ⟨by rw [if_neg g80, if_pos g90], by have := f3 bd (bd ++ [s]); have := f4 (bd ++ [s]); omega, h98⟩, (by repeat' (first | exact SLe.nil _ | refine SLe.cons rfl ?_ ?_ | exact Le.refl _ | exact Le.own _ _ _ | exact Le.nil _)), MLe.drop _ (MLe.refl _)⟩
        | exact ⟨(_, M63), ⟨by rw [if_neg g80, if_neg g90], by have := f3 bd bd; have := f4 bd; omega, h63⟩, (by repeat' (first | exact SLe.nil _ | refine SLe.cons rfl ?_ ?_ | exact Le.refl _ | exact Le.own _ _ _ | exact Le.nil _)), MLe.drop _ (MLe.refl _)⟩
    rintro ⟨o2, M⟩ hI
    try dsimp only at hI ⊢
    obtain ⟨hO2, hO2l, hS2⟩ := hI
    rw [← hO2]
    refine go_code ?_
    refine c_seq ?_
    refine c_region ?_
    refine AOps.st 99 rfl rfl rfl (op_fieldAddr_c rfl tf_60_5 rfl rfl ?_)
    refine AOps.st 100 rfl rfl rfl (op_load_c1 rfl ta_57 rfl rfl ?_)
    refine AOps.st 101 rfl rfl rfl (op_len rfl tu_57 rfl (.seq _ _) (fun n101 => ?_))
    refine AOps.st 102 rfl rfl rfl (op_move rfl rfl ?_)
    refine AOps.nil ?_
    refine go_code ?_
    refine c_block ?_
    refine c_loop (σ := Nat × Mem) (fun zz => match zz with | (j, M) => [(2, .cptr [.ptr b 0]), (100, .seq 16 (Al.cellss al)), (101, .val (.int .i64 (Al.cellss al).length)), (102, .val (.int .i64 j))]) (fun zz => match zz with | (j, M) => M) (fun zz => match zz with | (j, M) => j ≤ al.length ∧ SM b (Al.frs (al.take j) bd o2) bd M) (fun zz => match zz with | (j, M) => al.length - j) ((0, M)) ?_ ?_ ?_ ?_
    · exact ⟨by omega, hS2⟩
    · exact (by repeat' (first | exact SLe.nil _ | refine SLe.cons rfl ?_ ?_ | exact Le.refl _ | exact Le.own _ _ _ | exact Le.nil _))
    · exact (by first | exact MLe.none _ | exact MLe.refl _ | (repeat' (first | exact MLe.nil | exact MLe.refl _ | refine MLe.cons _ ?_ | refine MLe.drop _ ?_)))
    rintro ⟨j, M⟩ hI
    try dsimp only at hI ⊢
    obtain ⟨hj, hJ⟩ := hI
    refine c_seq ?_
    refine c_region ?_
    refine AOps.st 103 rfl rfl rfl (op_lss rfl rfl rfl ?_); intro c103 h103
    refine AOps.nil ?_
    refine go_code ?_
    refine c_seq ?_
    rcases bool_split h103 with ⟨rfl, g103⟩ | ⟨rfl, g103⟩
    · refine c_cond_f rfl ?_
      refine c_exit ?_
      refine x_code ?_
      refine x_lp ?_
      refine x_here ?_
      refine go_end ?_
      refine out_none rfl (MLe.refl _) ?_
      rwa [List.take_of_length_le (by omega)] at hJ
    · refine c_cond_t rfl ?_
      refine c_skip ?_
      refine go_code ?_
      refine c_seq ?_
      refine c_block ?_
      refine c_seq ?_
      obtain ⟨⟨⟨zk, zs, zn, zks, zp⟩, ⟨yk, yt, yn, ⟨ytk, yts, ytn, ytks⟩, yks, yal, ybs, yq⟩⟩, hx⟩ := get_some (l := al) (i := j) (by omega)
      have hcx := Al.cellss_get hx
      have hle := Al.frs_len (al.take j) bd o2
      have hsm := sum_at Al.w hx
      rw [Al.ws_map] at hle
      rw [Al.ws_map] at hb hw
      have hft := Al.frs_take (bd := bd) (out := o2) hx
      rw [Al.fr] at hft
      have hzl := Pa.names_len ⟨zk, zs, zn, zks, zp⟩
      have hza : (Al.mk ⟨zk, zs, zn, zks, zp⟩ ⟨yk, yt, yn, ⟨ytk, yts, ytn, ytks⟩, yks, yal, ybs, yq⟩).w = Pa.size ⟨zk, zs, zn, zks, zp⟩ + Ex.w ⟨yk, yt, yn, ⟨ytk, yts, ytn, ytks⟩, yks, yal, ybs, yq⟩ := by rw [Al.w]
      have HN := tNames_c ⟨zk, zs, zn, zks, zp⟩ (by omega)
      have HU := under_c b bd (Pa.names ⟨zk, zs, zn, zks, zp⟩) _ [] _ _ _ (by omega) (HA _ (List.mem_of_getElem? hx) (bd ++ Pa.names ⟨zk, zs, zn, zks, zp⟩) (by rw [List.length_append]; simp only [Al.e]; omega)) _ M hJ (by simp only [Al.e]; omega)
      simp only [Al.e] at HU
      rw [← hft] at HU
      generalize hnm : Pa.names ⟨zk, zs, zn, zks, zp⟩ = nm at *
      refine c_region ?_
      refine AOps.st 104 rfl rfl rfl (op_index rfl te_57 rfl (.seq _ _) rfl rfl (by assumption) ?_)
      first | (refine AOps.st 105 rfl rfl rfl (op_load_m (cs' := [_, _, _, _, _, _, _, _, _, _, _, _, _, _, _, _]) (i := 0) rfl ta_70 rfl rfl rfl rfl ?_)) | (refine AOps.st 105 rfl rfl rfl (op_load_m (cs' := [_, _, _, _, _, _, _, _, _, _, _, _, _, _, _, _]) (i := 1) rfl ta_70 rfl rfl rfl rfl ?_)) | (refine AOps.st 105 rfl rfl rfl (op_load_m (cs' := [_, _, _, _, _, _, _, _, _, _, _, _, _, _, _, _]) (i := 2) rfl ta_70 rfl rfl rfl rfl ?_)) | (refine AOps.st 105 rfl rfl rfl (op_load_m (cs' := [_, _, _, _, _, _, _, _, _, _, _, _, _, _, _, _]) (i := 3) rfl ta_70 rfl rfl rfl rfl ?_)) | (refine AOps.st 105 rfl rfl rfl (op_load_m (cs' := [_, _, _, _, _, _, _, _, _, _, _, _, _, _, _, _]) (i := 4) rfl ta_70 rfl rfl rfl rfl ?_)) | (refine AOps.st 105 rfl rfl rfl (op_load_m (cs' := [_, _, _, _, _, _, _, _, _, _, _, _, _, _, _, _]) (i := 5) rfl ta_70 rfl rfl rfl rfl ?_)) | (refine AOps.st 105 rfl rfl rfl (op_load_c (cs' := [_, _, _, _, _, _, _, _, _, _, _, _, _, _, _, _]) rfl ta_70 rfl rfl rfl ?_))
      refine AOps.st 10 rfl rfl rfl (op_alloce (cs' := [_, _, _, _, _, _, _, _, _, _, _, _, _, _, _, _]) rfl tz_70 rfl rfl ?_); intro b10
      refine AOps.st0 rfl rfl (op_store (cs' := [_, _, _, _, _, _, _, _, _, _, _, _, _, _, _, _]) (i := 0) rfl ts_70 rfl rfl rfl rfl rfl (Nat.le_of_ble_eq_true rfl) rfl ?_)
      refine AOps.nil ?_
      refine go_code ?_
      refine c_fixl 10 0 rfl rfl ?_
      refine c_drawnE [0, 1, 2, 4, 3, 5] [3, 5] [[], [], [1], [1, 2], [], [0, 1, 2, 3, 4]] tmix rfl ?_
      first | (refine EOps.d 106 (some 0) (i := 0) rfl rfl rfl rfl rfl (op_load_m1 (i := 0) rfl ta_116 rfl rfl rfl ⟨rfl, rfl⟩) ?_) | (refine EOps.d 106 (some 1) (i := 0) rfl rfl rfl rfl rfl (op_load_m1 (i := 0) rfl ta_116 rfl rfl rfl ⟨rfl, rfl⟩) ?_) | (refine EOps.d 106 (some 2) (i := 0) rfl rfl rfl rfl rfl (op_load_m1 (i := 0) rfl ta_116 rfl rfl rfl ⟨rfl, rfl⟩) ?_) | (refine EOps.d 106 (some 3) (i := 0) rfl rfl rfl rfl rfl (op_load_m1 (i := 0) rfl ta_116 rfl rfl rfl ⟨rfl, rfl⟩) ?_) | (refine EOps.d 106 (some 4) (i := 0) rfl rfl rfl rfl rfl (op_load_m1 (i := 0) rfl ta_116 rfl rfl rfl ⟨rfl, rfl⟩) ?_) | (refine EOps.d 106 (some 5) (i := 0) rfl rfl rfl rfl rfl (op_load_m1 (i := 0) rfl ta_116 rfl rfl rfl ⟨rfl, rfl⟩) ?_) | (refine EOps.d 106 (none) (i := 0) rfl rfl rfl rfl rfl (op_load_c1 rfl ta_116 rfl rfl ⟨rfl, rfl⟩) ?_)
      first | (refine EOps.d 107 (none) (i := 1) rfl rfl rfl rfl rfl (op_fieldAddr_m rfl tf_70_0 rfl ⟨rfl, rfl⟩) ?_) | (refine EOps.d 107 (none) (i := 1) rfl rfl rfl rfl rfl (op_fieldAddr_c rfl tf_70_0 rfl rfl ⟨rfl, rfl⟩) ?_)
      first | (refine EOps.d 108 (some 0) (i := 2) rfl rfl rfl rfl rfl (op_load_m (cs' := [_, _, _, _, _]) (i := 0) rfl ta_68 rfl rfl rfl rfl ⟨rfl, rfl⟩) ?_) | (refine EOps.d 108 (some 1) (i := 2) rfl rfl rfl rfl rfl (op_load_m (cs' := [_, _, _, _, _]) (i := 0) rfl ta_68 rfl rfl rfl rfl ⟨rfl, rfl⟩) ?_) | (refine EOps.d 108 (some 2) (i := 2) rfl rfl rfl rfl rfl (op_load_m (cs' := [_, _, _, _, _]) (i := 0) rfl ta_68 rfl rfl rfl rfl ⟨rfl, rfl⟩) ?_) | (refine EOps.d 108 (some 3) (i := 2) rfl rfl rfl rfl rfl (op_load_m (cs' := [_, _, _, _, _]) (i := 0) rfl ta_68 rfl rfl rfl rfl ⟨rfl, rfl⟩) ?_) | (refine EOps.d 108 (some 4) (i := 2) rfl rfl rfl rfl rfl (op_load_m (cs' := [_, _, _, _, _]) (i := 0) rfl ta_68 rfl rfl rfl rfl ⟨rfl, rfl⟩) ?_) | (refine EOps.d 108 (some 5) (i := 2) rfl rfl rfl rfl rfl (op_load_m (cs' := [_, _, _, _, _]) (i := 0) rfl ta_68 rfl rfl rfl rfl ⟨rfl, rfl⟩) ?_) | (refine EOps.d 108 (none) (i := 2) rfl rfl rfl rfl rfl (op_load_c (cs' := [_, _, _, _, _]) rfl ta_68 rfl rfl rfl ⟨rfl, rfl⟩) ?_)
      refine EOps.d 110 (none) (i := 4) rfl rfl rfl rfl rfl (op_makeFunc (fs := []) (cs := [.tmp 2, .tmp 10]) rfl rfl rfl ⟨rfl, rfl⟩) ?_
      refine EOps.nw (i := 3) rfl rfl rfl (op_callo (xs := [.tmp 108]) rfl rfl (HN) (by first | exact Les.refl _ | (repeat' (first | exact Les.refl _ | refine Les.cons ?_ ?_ | exact Le.refl _ | exact Le.own _ _ _ | exact Le.nil _ | refine Le.agg ?_))) (fun u109 => ⟨_, rfl, ?_⟩))
      refine EOps.wh (i := 5) rfl rfl rfl rfl ((op_callg (xs := [.tmp 106, .tmp 109, .tmp 110])  rfl rfl HU (by first | exact Les.refl _ | (repeat' (first | exact Les.refl _ | refine Les.cons ?_ ?_ | exact Le.refl _ | exact Le.own _ _ _ | exact Le.nil _ | refine Le.agg ?_))) (by exact List.Perm.refl _) (fun v111 M111 h111 => ?_)))
      show AGo _ _ _ _ _ _ _
      refine go_blk ?_
      refine go_code ?_
      refine c_region ?_
      refine AOps.st 112 rfl rfl rfl (op_add rfl rfl rfl (IntWalk.i64_in _ (by omega)) ?_)
      refine AOps.st 102 rfl rfl rfl (op_move rfl rfl ?_)
      refine AOps.nil ?_
      refine go_lp ?_
      exact ⟨(j + 1, M111), ⟨by omega, h111⟩, by simp; omega, (by repeat' (first | exact SLe.nil _ | refine SLe.cons rfl ?_ ?_ | exact Le.refl _ | exact Le.own _ _ _ | exact Le.nil _)), MLe.left _ _⟩
  · refine c_cond_t rfl ?_
    refine c_skip ?_
    refine go_code ?_
    refine c_seq ?_
    refine c_block ?_
    refine c_seq ?_
    obtain ⟨⟨ys, ⟨yk, yt, yn, ⟨ytk, yts, ytn, ytks⟩, yks, yal, ybs, yq⟩, yp⟩, hx⟩ := get_some (l := bs) (i := i) (by omega)
    have hcx := Bi.cellss_get hx
    have e : strs (Bi.names (bs.take i)) ++ [[AV.val (.string ys)]] = strs (Bi.names (bs.take (i + 1))) := by rw [List.take_add_one, hx]; simp [Bi.names, strs, Bi.s]
    refine c_region ?_
    refine AOps.st 50 rfl rfl rfl (op_index rfl te_58 rfl (.seq _ _) rfl rfl (by assumption) ?_)
    first | (refine AOps.st 51 rfl rfl rfl (op_load_m (cs' := [_, _, _, _, _, _, _, _, _, _, _, _, _]) (i := 0) rfl ta_74 rfl rfl rfl rfl ?_)) | (refine AOps.st 51 rfl rfl rfl (op_load_m (cs' := [_, _, _, _, _, _, _, _, _, _, _, _, _]) (i := 1) rfl ta_74 rfl rfl rfl rfl ?_)) | (refine AOps.st 51 rfl rfl rfl (op_load_m (cs' := [_, _, _, _, _, _, _, _, _, _, _, _, _]) (i := 2) rfl ta_74 rfl rfl rfl rfl ?_)) | (refine AOps.st 51 rfl rfl rfl (op_load_m (cs' := [_, _, _, _, _, _, _, _, _, _, _, _, _]) (i := 3) rfl ta_74 rfl rfl rfl rfl ?_)) | (refine AOps.st 51 rfl rfl rfl (op_load_m (cs' := [_, _, _, _, _, _, _, _, _, _, _, _, _]) (i := 4) rfl ta_74 rfl rfl rfl rfl ?_)) | (refine AOps.st 51 rfl rfl rfl (op_load_m (cs' := [_, _, _, _, _, _, _, _, _, _, _, _, _]) (i := 5) rfl ta_74 rfl rfl rfl rfl ?_)) | (refine AOps.st 51 rfl rfl rfl (op_load_c (cs' := [_, _, _, _, _, _, _, _, _, _, _, _, _]) rfl ta_74 rfl rfl rfl ?_))
    refine AOps.st 6 rfl rfl rfl (op_alloce (cs' := [_, _, _, _, _, _, _, _, _, _, _, _, _]) rfl tz_74 rfl rfl ?_); intro b6
    refine AOps.st0 rfl rfl (op_store (cs' := [_, _, _, _, _, _, _, _, _, _, _, _, _]) (i := 0) rfl ts_74 rfl rfl rfl rfl rfl (Nat.le_of_ble_eq_true rfl) rfl ?_)
    refine AOps.nil ?_
    refine go_code ?_
    refine c_region ?_
    refine AOps.st 52 rfl rfl rfl (op_move rfl rfl ?_)
    refine AOps.st 53 rfl rfl rfl (op_fieldAddr_m rfl tf_74_0 rfl ?_)
    refine AOps.st 54 rfl rfl rfl (op_load_m1 (i := 0) rfl ta_9 rfl rfl rfl ?_)
    refine AOps.st 55 rfl rfl rfl (op_buildSlice (xs := [.tmp 54]) el_27 rfl rfl rfl rfl rfl rfl (Nat.le_of_ble_eq_true rfl) ?_)
    first | (refine AOps.st 56 rfl rfl rfl (op_append (i := 0) el_27 rfl rfl rfl rfl (.seq _ _) (by rw [strs_len]; simp; omega) ?_)) | (refine AOps.st 56 rfl rfl rfl (op_append (i := 1) el_27 rfl rfl rfl rfl (.seq _ _) (by rw [strs_len]; simp; omega) ?_))
    intro u56
    refine AOps.st 4 rfl rfl rfl (op_assign rfl rfl ?_)
    refine AOps.nil ?_
    refine go_blk ?_
    refine go_code ?_
    refine c_region ?_
    refine AOps.st 57 rfl rfl rfl (op_add rfl rfl rfl (IntWalk.i64_in _ (by omega)) ?_)
    refine AOps.st 48 rfl rfl rfl (op_move rfl rfl ?_)
    refine AOps.nil ?_
    refine go_lp ?_
    exact ⟨(i + 1, u56), by simp; omega, by simp; omega, (by repeat' (first | exact SLe.nil _ | refine SLe.cons rfl ?_ ?_ | exact Le.refl _ | exact Le.own _ _ _ | exact Le.nil _ | (refine Le.own_eq ?_; exact e) | (refine Le.own_seq ?_; exact e) | (refine Le.seq_eq ?_; exact e))), MLe.drop _ (MLe.refl _)⟩
termination_by SizeOf.sizeOf e
decreasing_by
  · exact Ex.lt_kid hx
  · exact Nat.lt_trans (Bi.lt_e x) (Ex.lt_bind hx)
  · exact Nat.lt_trans (Al.lt_e x) (Ex.lt_alt hx)
set_option maxHeartbeats 4000000 in
set_option maxRecDepth 100000 in
theorem Free_c (e : Ex) (hw : e.w ≤ 10000000000) : OCall Try.prog 52 [.agg e.cells] 9 1 (strs (e.fr [] [])) := by
  have H := fun b M hM => exp_c e b [] (by simpa using hw) [] M hM (by simpa using hw)
  generalize e.fr [] [] = r at *
  obtain ⟨k, s, n, ⟨tk, ts, tn, tks⟩, ks, al, bs, p⟩ := e
  refine ACall.enter Try.func52 rfl (by kernel_rfl) rfl (Nat.le_of_ble_eq_true rfl) ?_
  refine c_start ?_
  refine c_seq ?_
  refine c_region ?_
  refine AOps.st 1 rfl rfl rfl (op_boxc (cs' := [_, _, _, _, _, _, _, _, _, _, _]) rfl rfl rfl rfl ?_)
  refine AOps.st 2 rfl rfl rfl (op_assign rfl rfl ?_)
  refine AOps.nil ?_
  refine go_code ?_
  refine c_seq ?_
  refine c_region ?_
  refine AOps.st 4 rfl rfl rfl (op_build (ns := []) (xs := []) rfl tz_118 rfl tfl_118 rfl rfl rfl rfl ?_)
  refine AOps.st 5 rfl rfl rfl (op_boxe (cs' := [_, _]) rfl rfl rfl rfl ?_); intro b5
  refine AOps.st 3 rfl rfl rfl (op_assign rfl rfl ?_)
  refine AOps.nil ?_
  refine go_code ?_
  refine c_seq ?_
  refine c_mem (SM.start b5) ?_
  refine c_region ?_
  refine AOps.st 6 rfl rfl rfl (op_move rfl rfl ?_)
  refine AOps.st 7 rfl rfl rfl (op_load_c (cs' := [_, _, _, _, _, _, _, _, _, _, _]) rfl ta_60 rfl rfl rfl ?_)
  refine AOps.st 8 rfl rfl rfl (op_callm (xs := [.tmp 6, .tmp 7])  [] rfl rfl rfl (H b5 _ ⟨.slice none 0 0, none, 0, rfl⟩) (Les.refl _) (fun v8 M8 h8 => ?_))
  obtain ⟨uo, ao, cap, rfl⟩ := h8
  refine AOps.nil ?_
  refine go_code ?_
  refine c_seq ?_
  refine c_region ?_
  refine AOps.st 9 rfl rfl rfl (op_move rfl rfl ?_)
  refine AOps.st 10 rfl rfl rfl (op_nilCheck_m rfl rfl ?_)
  refine AOps.st 11 rfl rfl rfl (op_fieldAddr_m rfl tf_118_0 rfl ?_)
  refine AOps.st 12 rfl rfl rfl (op_load_m1 (i := 0) rfl ta_27 rfl rfl rfl ?_)
  refine AOps.st 2 rfl rfl rfl (op_assign rfl rfl ?_)
  refine AOps.nil ?_
  refine go_code ?_
  refine c_ret ?_
  exact out_tmp rfl rfl (Le.refl _) (MLe.drop _ (MLe.cons _ (MLe.drop _ MLe.nil))) ⟨_, rfl, rfl⟩
def Ex.kind : Ex → Int | .mk k _ _ _ _ _ _ _ => k
inductive Ex.Val : Ex → Prop
  | leaf {k n p : Int} {s : Txt} {t : Ty} {ks : List Ex} {al : List Al} {bs : List Bi} (h : k = 2 ∨ k = 3 ∨ k = 4 ∨ k = 6) : Ex.Val (.mk k s n t ks al bs p)
  | ann {n p : Int} {s : Txt} {t : Ty} {x : Ex} {al : List Al} {bs : List Bi} (h : Ex.Val x) : Ex.Val (.mk 12 s n t [x] al bs p)
  | app4 {n p : Int} {s : Txt} {t : Ty} {f x : Ex} {al : List Al} {bs : List Bi} (hf : f.kind = 4) (h : Ex.Val x) : Ex.Val (.mk 5 s n t [f, x] al bs p)
  | app5 {n p : Int} {s : Txt} {t : Ty} {f x : Ex} {al : List Al} {bs : List Bi} (hf : f.kind = 5) (hv : Ex.Val f) (h : Ex.Val x) : Ex.Val (.mk 5 s n t [f, x] al bs p)
theorem Ex.val_iff {k n p : Int} {s : Txt} {t : Ty} {ks : List Ex} {al : List Al} {bs : List Bi} : (Ex.mk k s n t ks al bs p).Val ↔ (k = 2 ∨ k = 3 ∨ k = 4 ∨ k = 6) ∨ (k = 12 ∧ ∃ x, ks = [x] ∧ x.Val) ∨ (k = 5 ∧ ∃ f x, ks = [f, x] ∧ (f.kind = 4 ∨ f.kind = 5 ∧ f.Val) ∧ x.Val) := by
  constructor
  · intro h
    cases h with
    | leaf h => exact .inl h
    | ann h => exact .inr (.inl ⟨rfl, _, rfl, h⟩)
    | app4 hf h => exact .inr (.inr ⟨rfl, _, _, rfl, .inl hf, h⟩)
    | app5 hf hv h => exact .inr (.inr ⟨rfl, _, _, rfl, .inr ⟨hf, hv⟩, h⟩)
  · rintro (h | ⟨rfl, x, rfl, h⟩ | ⟨rfl, f, x, rfl, hf | ⟨hf, hv⟩, h⟩)
    · exact .leaf h
    · exact .ann h
    · exact .app4 hf h
    · exact .app5 hf hv h
end Go.Proofs.Ytjgjnheeohfmmaa
