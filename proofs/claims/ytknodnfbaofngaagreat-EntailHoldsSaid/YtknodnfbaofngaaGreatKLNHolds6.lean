/- Parts of a proof: turn, none, Put, Apply of the program; the program's Above; Needs of the program; declarations that were parsed and are right; what stands above a class: the classes that can be reached; Put and Apply of the document; Needs of the document; Needs of both, as one function; proofs of preds as plain data; the document's Prove as plain functions; nodes; what is asked; The arguments of the statements of layer 12.; when a proof holds, as a plain law; sameness of preds and proofs; an instance that fits; the way up: climb of the document, up of the program; Prove of the program; EqualFunc of proofs and preds; Holds of the program, by the kind of the proof; Holds of the program -/
import Derived.Test.YtknodnfbaofngaaGreatKLNHolds5
namespace Go.Proofs.YtknodnfbaofngaaGreat
open Go.RowKit
theorem les_eq {cs cs' : List AV} (h : cs = cs') : Les cs cs' := by rw [h]; exact Uf _
abbrev zTy : List AV := [.val (.int .i64 0), .val (.string ⟨#[]⟩), .val (.int .i64 0), .val (.slice none 0 0)]
set_option maxHeartbeats 4000000 in
set_option maxRecDepth 100000 in
theorem none_c (x : Ty) (o : Ty → Option Ty) (ho : o x = none) : ACall Tryz.prog 74 [.agg x.cells] [] (fun v M' => [] = M' ∧ ∃ (y : Ty) (c : Bool), v = .tup [.agg y.cells, .val (.bool c)] ∧ o x = if c then some y else none) := by
 obtain ⟨k, s, n, ks⟩ := x
 refine Zv Tryz.func74 J (by kernel_rfl) J (Uk J) ?_
 refine Ye (Zg (Zc (Za 1 J J J (op_boxe (cs' := [_, _, _, _]) J J J J ?_)))); intro b1
 refine Za 2 J J J (Zy (cs' := [_, _, _, _]) J tz_25 J J ?_); intro b2
 refine Za 3 J J J (Zf J J (Vx (Zb (Zg (Zc (Za 4 J J J (Zx (cs' := [_, _, _, _]) (i := 1) J Xt J J J J (Zt J J (Zr (cs' := [_, _, _, _]) (i := 0) J ts_25 J J J J J (Uk J) J (Za 3 J J J (Zf J J (Vx (Zb ?_)))))))))))))
 exact Ya (Vc (i := 0) J J J J Xt J by2 by3 ⟨J, .mk k s n ks, false, J, ho⟩)
theorem turn_es (o : Ty → Option Ty) (ks : List Ty) (i : Nat) (x : Ty) (hx : ks[i]? = some x) (zc : List AV) :
    (Ty.cellss (Ty.turns o (ks.take i)) ++ List.replicate (ks.length - i) zc).set i (x.turn o).cells = Ty.cellss (Ty.turns o (ks.take (i + 1))) ++ List.replicate (ks.length - (i + 1)) zc := by
 have hi : i < ks.length := by
  rcases Nat.lt_or_ge i ks.length with k | k
  ·exact k
  ·rw [List.getElem?_eq_none k] at hx; simp at hx
 have hl : (Ty.cellss (Ty.turns o (ks.take i))).length = i := by rw [Ty.cellss_len, Ty.turns_len]; simp; omega
 rw [List.set_append_right _ _ (by omega), hl, Nat.sub_self, show ks.length - i = (ks.length - (i + 1)) + 1 from by omega, List.replicate_succ, List.set_cons_zero, We hx, Ty.turns_snoc, Ty.cellss_app]
 simp [Ty.cellss]
theorem turn_wide (o : Ty → Option Ty) (ks : List Ty) (i : Nat) (zc : List AV) (hz : zc.length = 4) : ∀ e ∈ Ty.cellss (Ty.turns o (ks.take i)) ++ List.replicate (ks.length - i) zc, e.length = 4 := by
 intro e he
 rcases List.mem_append.1 he with q | q
 ·rw [Ty.cellss_map] at q
  obtain ⟨⟨k, s, n, l⟩, _, rfl⟩ := List.mem_map.1 q
  rfl
 ·rw [List.eq_of_mem_replicate q]; exact hz
set_option maxHeartbeats 4000000 in
set_option maxRecDepth 100000 in
theorem turn_c (o : Ty → Option Ty) (f : FuncId) (fs cs : List AV) (Mc : Mem)
    (hf : ∀ x, ACall Tryz.prog f (fs ++ [.agg (Ty.cells x)] ++ cs) Mc (fun v M' => Mc = M' ∧ ∃ (y : Ty) (c : Bool), v = .tup [.agg y.cells, .val (.bool c)] ∧ o x = if c then some y else none)) (d : Nat) :
    ∀ t : Ty, t.size ≤ d → t.size ≤ 1000000 → ACall Tryz.prog 72 [.agg t.cells, .clo (.func f) fs cs] Mc (fun v M' => v = .agg (t.turn o).cells ∧ Mc = M') := by
 induction d with
 | zero => intro t hd; have := Ty.size_pos t; omega
 | succ d ih =>
  rintro ⟨k, s, n, ks⟩ hd hmx
  have hl := Ty.cellss_len ks
  have hls := Ty.len_sizes ks
  rw [Ty.size] at hd hmx
  refine Zv Tryz.func72 J (by kernel_rfl) J (Uk J) ?_
  refine Ye (Zg (Zc (Za 2 J J J (op_boxe (cs' := [_, _, _, _]) J J J J ?_)))); intro b2
  refine Za 4 J J J (Zy (cs' := [_, _, _, _]) J tz_25 J J ?_); intro b4
  refine Vx (Zb (Zg (Zg (Zc (Za 11 J J J (Zd J J (Za 12 J J J (Zx (cs' := [_, _, _, _]) (i := 1) J Xt J J J J ?_))))))))
  refine Za 13 J J J (op_callvm (xs := [.tmp 12])  [.loc b4 _, .loc b2 _] J J J J (hf (.mk k s n ks)) (Uf _) (fun v13 M13 h13 => ?_))
  obtain ⟨rfl, ⟨yk, ys, yn, yks⟩, c15, rfl, hc⟩ := h13
  refine Za 10 J J J (Zd J J (Za 14 J J J (Xa J J J (Za 15 J J J (Xa J J J (Za 5 J J J (Zy (cs' := [_, _, _, _]) J tz_25 J J ?_))))))); intro b5
  refine Zt J J (Zr (cs' := [_, _, _, _]) (i := 0) J ts_25 J J J J J (Uk J) J (Za 6 J J J (Zf J J (Vx (Zb (Zg (Zc (Za 16 J J J (Zd J J (Vx (Zb ?_)))))))))))
  rcases c15 with _ | _
  ·refine Zq J (Zw (Zb (Zg (Zc (Za 18 J J J (Zh J Xq J (Za 19 J J J (Zp (i := 2) J Wr J J J ?_))))))))
   refine Za 20 J J J (Yv J Vh J (.seq _ _) (fun n20 => ?_))
   refine Za 21 J J J (op_makeSlice el_23 J J J (by omega) J ?_); intro b21
   refine Za 7 J J J (Zf J J (Vx (Zb (Zg (Zg (Zc (Za 22 J J J (Zh J Xq J (Za 23 J J J (Zp (i := 3) J Wr J J J ?_))))))))))
   refine Za 24 J J J (Yv J Vh J (.seq _ _) (fun n24 => ?_))
   refine Za 25 J J J (Zd J J (Vx (Zb (Zz ?_))))
   rw [hl]
   refine c_loop (σ := Nat) (fun zz => match zz with | i => [(1, .clo (.func f) fs cs), (2, .ptr b2 0), (4, .ptr b4 0), (7, .arr b21 0 ks.length ks.length), (23, .seq 4 (Ty.cellss ks)), (24, .val (.int .i64 ks.length)), (25, .val (.int .i64 i))]) (fun zz => match zz with | i => .loc b21 (Ty.cellss (Ty.turns o (ks.take i)) ++ List.replicate (ks.length - i) zTy).flatten :: .loc b5 (Ty.cells (.mk yk ys yn yks)) :: .loc b4 zTy :: .loc b2 (Ty.cells (.mk k s n ks)) :: Mc) (fun zz => match zz with | i => i ≤ ks.length) (fun zz => match zz with | i => ks.length - i) (0) ?_ ?_ ?_ ?_
   ·simp
   ·exact by4
   ·exact by3
   rintro i hI
   try dsimp only [List.cons_append, List.nil_append] at hI ⊢
   refine Zg (Zc (Za 26 J J J (Ys J J J ?_))); intro c26 h26
   refine Vx (Zb (Zg ?_))
   rcases Zi h26 with ⟨rfl, g26⟩ | ⟨rfl, g26⟩
   ·refine Zq J (Xd (Xf (Xz (Xe (Zb (Zg ?_))))))
    have hw := turn_wide o ks ks.length zTy rfl
    obtain rfl : i = ks.length := by omega
    simp only [List.take_length, Nat.sub_self, List.replicate_zero, List.append_nil] at hw ⊢
    refine c_freeze (i := 0) (al' := [(2, .ptr b2 0), (4, .ptr b4 0), (7, .seq 4 (Ty.cellss (Ty.turns o ks)))]) J J hw (by rw [Ty.cellss_len, Ty.turns_len]) (by omega) (Frz.cons J (Ue _) (Frz.cons J (Ue _) (Frz.arr J Frz.nil))) ?_
    refine Zc (Za 37 J J J (Zd J J (Za 38 J J J (Zh J Xq J (Zt J J (Zr (cs' := [_, _, _, _]) (i := 2) J ts_23 J J J J J (Uk J) J (Vx (Zb (Zg (Zc (Za 39 J J J (Zx (cs' := [_, _, _, _]) (i := 2) J Xt J J J J ?_))))))))))))
    refine Zt J J (Zr (cs' := [_, _, _, _]) (i := 1) J ts_25 J J J J J (Uk J) J (Vx (Zb (Ya ?_))))
    rw [Ty.turn_none (by simpa using hc)]
    exact Ym (i := 1) J J J Xt J by2 (Ub _ (Ub _ (Ub _ (Vy _)))) ⟨J, J⟩
   ·refine Zu J (Zw (Zb (Zg (Zz (Zg ?_)))))
    obtain ⟨⟨k', s', n', ks'⟩, hx⟩ := Yu (l := ks) (i := i) (by omega)
    have hcx := Ty.cellss_get hx
    have hsz := Ty.size_at hx
    have H := ih (.mk k' s' n' ks') (by omega) (by omega)
    have he := turn_es o ks i _ hx zTy
    have hw := turn_wide o ks i zTy rfl
    have hln : (Ty.cellss (Ty.turns o (ks.take i)) ++ List.replicate (ks.length - i) zTy).length = ks.length := by rw [List.length_append, Ty.cellss_len, Ty.turns_len]; simp; omega
    generalize Ty.turn o _ = r at H he
    obtain ⟨rk, rs, rn, rks⟩ := r
    refine Zc (Za 27 J J J (Zd J J (Za 28 J J J (Yd J te_23 J (.seq _ _) J J (by assumption) ?_))))
    refine Za 29 J J J (Yb (cs' := [_, _, _, _]) J Xt J J J (Za 9 J J J (Zy (cs' := [_, _, _, _]) J tz_25 J J ?_))); intro b9
    refine Za 8 J J J (Zf J J (Zt J J (Zr (cs' := [_, _, _, _]) (i := 0) J ts_25 J J J J J (Uk J) J (Vx (Zb (Zc (Za 30 J J J (Zd J J (Za 31 J J J (Zd J J (Za 32 J J J (Zx (cs' := [_, _, _, _]) (i := 0) J Xt J J J J ?_))))))))))))
    refine Za 33 J J J (Zd J J ?_)
    refine Za 34 J J J (op_callm (xs := [.tmp 32, .tmp 33])  [.loc b9 _, .loc b21 _, .loc b5 _, .loc b4 _, .loc b2 _] J J J H (Uf _) (fun v34 M34 h34 => ?_))
    obtain ⟨rfl, rfl⟩ := h34
    refine Za 35 J J J (op_index_arr J te_23 J J J (by omega) ?_)
    refine Zt J J (op_store_row (k := 1) J ts_25 J J J J J (hw) ((by omega)) ?_)
    refine Vx (Yw (Zb (Zc (Za 36 J J J (Yx J J J (Uo _ (by omega)) ?_)))))
    refine Za 25 J J J (Zd J J (Vx (Xc ?_)))
    refine ⟨i + 1, by simp; omega, by simp; omega, by4, ?_⟩
    exact Ub _ (Uc _ (les_eq (congrArg List.flatten he)) (Vy _))
  ·refine Zu J (Zg (Zc (Za 17 J J J (Zx (cs' := [_, _, _, _]) (i := 0) J Xt J J J J (Zt J J (Zr (cs' := [_, _, _, _]) (i := 1) J ts_25 J J J J J (Uk J) J (Vx (Zb (Ya ?_)))))))))
   rw [Ty.turn_some (by simpa using hc)]
   exact Ym (i := 1) J J J Xt J by2 (Ub _ (Ub _ (Ub _ (Vy _)))) ⟨J, J⟩
theorem copy_c (t : Ty) (hmx : t.size ≤ 1000000) : PCall Tryz.prog 72 [.agg t.cells, .clo (.func 74) [] []] (.agg t.cells) := by
 have := turn_c (fun _ => none) 74 [] [] [] (fun x => none_c x (fun _ => none) rfl) t.size t (Nat.le_refl _) hmx
 rw [Ty.turn_id] at this
 exact this.mono (fun v M' ⟨h1, h2⟩ => ⟨h1, h2.symm⟩)
set_option maxHeartbeats 4000000 in
set_option maxRecDepth 100000 in
theorem PutF_c (names : List ByteArray) (ts : List Ty) (b3 b4 : Nat) (hts : ∀ t ∈ ts, t.size ≤ 1000000) (x : Ty) : ACall Tryz.prog 73 [.agg x.cells, .ptr b3 0, .ptr b4 0] [.loc b3 [.seq 1 (strs names)], .loc b4 [.seq 4 (Ty.cellss ts)]] (fun v M' => [.loc b3 [.seq 1 (strs names)], .loc b4 [.seq 4 (Ty.cellss ts)]] = M' ∧ ∃ (y : Ty) (c : Bool), v = .tup [.agg y.cells, .val (.bool c)] ∧ putO names ts x = if c then some y else none) := by
 obtain ⟨k, s, n, ks⟩ := x
 have hl := Ty.cellss_len ts
 have hfl := firstAt_lt s names 0
 refine Zv Tryz.func73 J (by kernel_rfl) J (Uk J) ?_
 refine Ye (Zg (Zc (Za 3 J J J (op_boxe (cs' := [_, _, _, _]) J J J J ?_)))); intro b3
 refine Za 4 J J J (Zy (cs' := [_, _, _, _]) J tz_25 J J ?_); intro b4
 refine Za 5 J J J (Zf J J (Vx (Zb (Zg (Zg (Zc (Za 7 J J J (Zh J Vt J (Za 8 J J J (Zp (i := 1) J Yz J J J (Za 9 J J J (Xp J J J ?_)))))))))))); intro c9 h9
 refine Vx (Zb ?_)
 rcases Zi h9 with ⟨rfl, g9⟩ | ⟨rfl, g9⟩
 ·refine Zq J (Zw (Zb (Zg (Zc (Za 11 J J J (Zp (i := 2) J ta_68 J J J (Za 12 J J J (Zh J Wd J (Za 13 J J J (Zp (i := 1) J Xb J J J (Za 14 J J J (Yn (xs := [.tmp 11, .tmp 13]) J J (IndexS_c names s) by1 ?_))))))))))))
  refine Za 6 J J J (Zf J J (Vx (Zb (Zg (Zg (Xm 22 (firstAt s names 0 < 0 ∨ (ts.length : Int) ≤ firstAt s names 0) ?_ _ _ J ?_))))))
  ·skip
   refine Za 15 J J J (Zd J J (Za 16 J J J (Ys J J J ?_))); intro c16 h16
   refine Za 17 J J J (Zd J J ?_)
   rcases Zi h16 with ⟨rfl, g16⟩ | ⟨rfl, g16⟩
   ·skip
    refine Zo 18 J J J J J (Zd J J (Zo 19 J J J J J (Zp (i := 3) J Wr J J J ?_)))
    refine Zo 20 J J J J J (Yv J Vh J (.seq _ _) (fun n20 => ?_))
    refine Zo 21 J J J J J (Xx J J J ?_); intro c21 h21
    refine Za 22 J J J (Zm J J J (Vx (Ui J ?_ by5 by3)))
    simp_all; omega
   ·skip
    refine Zl 18 J J J J J (Zl 19 J J J J J (Zl 20 J J J J J (Zl 21 J J J J J (Za 22 J J J (Zm J J J (Vx ?_))))))
    refine Ui J ?_ by5 by3
    simp_all; done
  intro c22 h22
  refine Zb ?_
  rcases Zi h22 with ⟨rfl, g22⟩ | ⟨rfl, g22⟩
  ·refine Zq J (Zw (Zb (Zg ?_)))
   obtain ⟨j, hj⟩ : ∃ j : Nat, firstAt s names 0 = j := ⟨(firstAt s names 0).toNat, by omega⟩
   obtain ⟨⟨yk, ys, yn, yks⟩, hy⟩ := Yu (l := ts) (i := j) (by omega)
   have hcy := Ty.cellss_get hy
   rw [hj]
   obtain rfl : k = 1 := by simpa using g9
   refine Zc (Za 24 J J J (Zp (i := 3) J Wr J J J (Za 25 J J J (Zd J J (Za 26 J J J (Yd J te_23 J (.seq _ _) J J (by assumption) ?_))))))
   refine Za 27 J J J (Yb (cs' := [_, _, _, _]) J Xt J J J (Za 28 J J J (Yn (xs := [.tmp 27, .func 74]) J J (copy_c (.mk yk ys yn yks) (hts _ (Uq hy))) by1 ?_)))
   refine Zt J J (Zr (cs' := [_, _, _, _]) (i := 0) J ts_25 J J J J J (Uk J) J (Za 5 J J J (Zf J J (Vx (Zb (Ya ?_))))))
   exact Vc (i := 0) J J J J Xt J by2 (Ub _ (Ub _ (Vy _))) ⟨J, .mk yk ys yn yks, true, J, by rw [putO_in hj, hy]; rfl⟩
  ·refine Zu J (Zg (Zc (Za 23 J J J (Zx (cs' := [_, _, _, _]) (i := 1) J Xt J J J J (Zt J J (Zr (cs' := [_, _, _, _]) (i := 0) J ts_25 J J J J J (Uk J) J (Za 5 J J J (Zf J J (Vx (Zb (Ya ?_)))))))))))
   exact Vc (i := 0) rfl rfl rfl rfl Xt rfl by2 (Ub _ (Ub _ (Vy _))) ⟨rfl, .mk k s n ks, false, rfl, by rcases g22 with q | q; exact putO_out q; exact putO_big q⟩
 ·refine Zu J (Zg (Zc (Za 10 J J J (Zx (cs' := [_, _, _, _]) (i := 1) J Xt J J J J (Zt J J (Zr (cs' := [_, _, _, _]) (i := 0) J ts_25 J J J J J (Uk J) J (Za 5 J J J (Zf J J (Vx (Zb (Ya ?_)))))))))))
  exact Vc (i := 0) J J J J Xt J by2 (Ub _ (Ub _ (Vy _))) ⟨J, .mk k s n ks, false, J, putO_not g9⟩
set_option maxHeartbeats 4000000 in
set_option maxRecDepth 100000 in
theorem Put_c (names : List ByteArray) (ts : List Ty) (t : Ty) (hts : ∀ t ∈ ts, t.size ≤ 1000000) (hmx : t.size ≤ 1000000) : PCall Tryz.prog 44 [.seq 1 (strs names), .seq 4 (Ty.cellss ts), .agg t.cells] (.agg (t.turn (putO names ts)).cells) := by
 have W := fun (b3 b4 : Nat) => turn_c (putO names ts) 73 [] [.ptr b3 0, .ptr b4 0] [.loc b3 [.seq 1 (strs names)], .loc b4 [.seq 4 (Ty.cellss ts)]] (fun x => PutF_c names ts b3 b4 hts x) t.size t (Nat.le_refl _) hmx
 generalize Ty.turn _ t = r at W ⊢
 obtain ⟨rk, rs, rn, rks⟩ := r
 obtain ⟨k, s, n, ks⟩ := t
 refine Zv Tryz.func44 J (by kernel_rfl) J (Uk J) ?_
 refine Ye (Zg (Zc (Za 3 J J J (op_boxe (cs' := [_]) J J J J ?_)))); intro b3
 refine Za 4 J J J (op_boxe (cs' := [_]) J J J J ?_); intro b4
 refine Za 5 J J J (op_boxe (cs' := [_, _, _, _]) J J J J ?_); intro b5
 refine Za 6 J J J (Zy (cs' := [_, _, _, _]) J tz_25 J J ?_); intro b6
 refine Vx (Zb (Zg (c_mem (M' := [.loc b6 zTy, .loc b5 _, .loc b3 [.seq 1 (strs names)], .loc b4 [.seq 4 (Ty.cellss ts)]]) (MImp.cons _ (MImp.cons _ (MImp.swap _ _ _))) (Zc (Za 7 J J J (Zx (cs' := [_, _, _, _]) (i := 1) J Xt J J J J (Za 8 J J J (op_makeFunc (fs := []) (cs := [.tmp 3, .tmp 4]) J J J ?_))))))))
 refine Za 9 J J J (op_callm (xs := [.tmp 7, .tmp 8])  [.loc b6 _, .loc b5 _] J J J (W b3 b4) (Uf _) (fun v9 M9 h9 => ?_))
 obtain ⟨rfl, rfl⟩ := h9
 exact Zt J J (Zr (cs' := [_, _, _, _]) (i := 0) J ts_25 J J J J J (Uk J) J (Vx (Zb (Ya (Ym (i := 0) J J J Xt J by2 by3 ⟨J, J⟩)))))
set_option maxHeartbeats 4000000 in
set_option maxRecDepth 100000 in
theorem tAbove_c (v : En) (hS : (allSup v).length ≤ 10000000000) (c : ByteArray) : OCall Tryz.prog 32 [.agg v.cells, .val (.string c)] 9 1 (strs (aboveR v c)) := by
 have H := fun b5 b6 => Above1_c v hS b5 b6 ((allSup v).length + 1) c [] (.slice none 0 0) (by rw [lack_nil]; omega) (by rw [lack_nil]; simp)
 obtain ⟨da, cl, ins⟩ := v
 have he : overF (En.mk da cl ins) ((allSup (En.mk da cl ins)).length + 1) c [] = aboveR (En.mk da cl ins) c := rfl
 rw [he] at H
 simp only [En.cells] at H ⊢
 refine Zv Tryz.func32 J (by kernel_rfl) J (Uk J) ?_
 refine Ye (Zg (Zc (Za 2 J J J (Yj (cs' := [_, _, _]) J J J J (Za 4 J J J (Zf J J (Vx (Zb (Zg (Zc (Za 5 J J J (Zy (cs' := [_]) J tz_68 J J ?_)))))))))))); intro b5
 refine Vx (Zb (Zg (Zc (Za 6 J J J (Zy (cs' := [_]) J tz_123 J J ?_))))); intro b6
 refine Vx (Zb (Zg (Zc (Za 7 J J J (op_makeFunc (fs := []) (cs := [.tmp 2, .tmp 5, .tmp 6]) J J J (Zt J J (Zr (cs' := [_]) (i := 0) J ts_123 J J J J J (Uk J) J (Vx (Zb (Zg (Wg 9 1 (c_le (SLe.refl _) (Ua _ (Uc _ (Ug (Le.nilOwn 1) (Uf _)) (Vy _))) ?_))))))))))))
 refine Zc (Za 8 J J J (Zp (i := 0) J ta_123 J J J (Za 9 J J J (Zd J J (Za 10 J J J (op_callvat [1, 1, 0] (xs := [.tmp 9])  J J J J (H b5 b6) by1 ?_))))))
 rintro v10 M10 ⟨u10, rfl, rfl⟩
 exact Vx (Zb (Zg (Zc (Za 11 J J J (Zp (i := 0) J ta_68 J J J (Za 4 J J J (Zf J J (Vx (Zb (Ya (Yf J J (Ue _) (Ub _ (Ua _ (Vz _))) ⟨u10, J, J⟩)))))))))))
structure EnG (v : En) : Prop where
 b : EnB v
 cv : ∀ x ∈ v.ins, CtxV x.cx
def needsR (v : En) (inst : Int) (t : Ty) : List Pr := match v.ins[inst.toNat]? with
 | none => []
 | some x => if inst < 0 ∨ t.kind ≠ 3 ∨ t.kids.length ≠ x.hd.kids.length then [] else x.cx.map fun p => Pr.mk p.c (p.t.turn (putO (varsR x) t.kids))
set_option maxHeartbeats 4000000 in
set_option maxRecDepth 100000 in
theorem Needs_out (v : En) (inst : Int) (t : Ty) (h : inst < 0 ∨ v.ins.length ≤ inst) : PCall Tryz.prog 17 [.agg v.cells, .val (.int .i64 inst), .agg t.cells] (.seq 5 []) := by
 obtain ⟨da, cl, ins⟩ := v
 obtain ⟨tk, ts, tn, tl⟩ := t
 have hli := In.cellss_len ins
 simp only [En.ins] at h
 simp only [En.cells, Ty.cells]
 refine Zv Tryz.func17 J (by kernel_rfl) J (Uk J) ?_
 refine Ye (Zg (Zc (Za 3 J J J (Yj (cs' := [_, _, _]) J J J J (Za 5 J J J (Yj (cs' := [_, _, _, _]) J J J J (Za 6 J J J (Zf J J (Vx (Zb (Zg (Zg ?_))))))))))))
 refine Wk 41 (True) Wi J ?_ _ _ J ?_
 ·skip
  refine Zk 14 J J (Zd J J ⟨J, J⟩) ?_
  refine Xn 15 J J (fun _ q => Ys J J J q) ?_; intro c15 h15
  refine Zk 16 J J (Zd J J ⟨J, J⟩) ?_
  rcases Zi h15 with ⟨rfl, g15⟩ | ⟨rfl, g15⟩
  ·skip
   refine Zs 17 J J J J (Zd J J ⟨J, J⟩) ?_
   refine Zs 18 J J J J (Zj J Wn J J ⟨J, J⟩) ?_
   refine Zs 19 J J J J (Zn J Vq J J ⟨J, J⟩) ?_
   refine Zs 20 J J J J (Yv J tu_36 J (.seq _ _) (fun _ => ⟨J, J⟩)) ?_
   refine Yy 21 J J J J (fun _ q => Xx J J J q) ?_; intro c21 h21
   refine Zk 22 J J (Zm J J J ⟨J, J⟩) ?_
   refine Zk 23 J J (Zd J J ⟨J, J⟩) ?_
   rcases Zi h21 with ⟨rfl, g21⟩ | ⟨rfl, g21⟩
   ·omega
   ·skip
    refine Ze 24 J J J J (Ze 25 J J J J (Ze 26 J J J J (Zk 27 J J (Zm J J J ⟨J, J⟩) ?_)))
    refine Zk 28 J J (Zd J J ⟨J, J⟩) ?_
    refine Ze 29 J J J J (Ze 30 J J J J (Ze 31 J J J J (Ze 32 J J J J (Ze 33 J J J J (Ze 34 J J J J ?_)))))
    refine Ze 35 J J J J (Ze 36 J J J J (Ze 37 J J J J (Ze 38 J J J J (Ze 39 J J J J (Ze 40 J J J J ?_)))))
    refine Zk 41 J J (Zm J J J ⟨J, J⟩) ?_
    show BoolQ _ _ _ _ _ _
    refine Ui J ?_ by5 by3
    simp
  ·skip
   refine Ze 17 J J J J (Ze 18 J J J J (Ze 19 J J J J (Ze 20 J J J J (Ze 21 J J J J (Zk 22 J J (Zm J J J ⟨J, J⟩) ?_)))))
   refine Zk 23 J J (Zd J J ⟨J, J⟩) ?_
   refine Ze 24 J J J J (Ze 25 J J J J (Ze 26 J J J J (Zk 27 J J (Zm J J J ⟨J, J⟩) ?_)))
   refine Zk 28 J J (Zd J J ⟨J, J⟩) ?_
   refine Ze 29 J J J J (Ze 30 J J J J (Ze 31 J J J J (Ze 32 J J J J (Ze 33 J J J J (Ze 34 J J J J ?_)))))
   refine Ze 35 J J J J (Ze 36 J J J J (Ze 37 J J J J (Ze 38 J J J J (Ze 39 J J J J (Ze 40 J J J J ?_)))))
   refine Zk 41 J J (Zm J J J ⟨J, J⟩) ?_
   show BoolQ _ _ _ _ _ _
   refine Ui J ?_ by5 by3
   simp
 intro c41 h41
 refine Zb ?_
 rcases Zi h41 with ⟨rfl, g41⟩ | ⟨rfl, g41⟩
 ·exact absurd trivial g41
 ·exact Zu J (Zg (Zc (Za 6 J J J (Zf J J (Vx (Zb (Ya (Yf J J (Le.nil _) (Vz _) ⟨J, J⟩))))))))
set_option maxHeartbeats 4000000 in
set_option maxRecDepth 100000 in
theorem Needs_in (v : En) (hv : EnG v) (i : Nat) (y : In) (hy : v.ins[i]? = some y) (t : Ty) (ht : t.size ≤ 1000000) : PCall Tryz.prog 17 [.agg v.cells, .val (.int .i64 i), .agg t.cells] (.seq 5 (Pr.cellss (if t.kind ≠ 3 ∨ t.kids.length ≠ y.hd.kids.length then [] else y.cx.map fun p => Pr.mk p.c (p.t.turn (putO (varsR y) t.kids))))) := by
 obtain ⟨hb1, _, hb3⟩ := hv.b.inss y (Uq hy)
 have hcv := hv.cv y (Uq hy)
 obtain ⟨da, cl, ins⟩ := v
 have hi := Vf hy
 have hcy := In.cellss_get hy
 have hli := In.cellss_len ins
 simp only [En.ins] at hi hcy hy
 obtain ⟨tk, ts, tn, tl⟩ := t
 have hlt := Ty.cellss_len tl
 have hkz : ∀ t ∈ tl, t.size ≤ 1000000 := fun u hu => by have := Ty.size_mem hu; rw [Ty.size] at ht; omega
 obtain ⟨yc, ⟨yk, ys, yn, yl⟩, ycx, ybs, yp⟩ := y
 have hly := Ty.cellss_len yl
 have hlp := Pr.cellss_len ycx
 have hb1 : ycx.length ≤ 100000 := hb1
 have hb3 : yl.length ≤ 200000 := hb3
 have hcv : CtxV ycx := hcv
 simp only [In.cells, Ty.cells, List.cons_append, List.nil_append] at hcy
 obtain ⟨R, hR⟩ : ∃ R, (if tk ≠ 3 ∨ tl.length ≠ yl.length then [] else ycx.map fun p => Pr.mk p.c (p.t.turn (putO (yl.map Ty.name) tl))) = R := ⟨_, rfl⟩
 have hR' : (if (Ty.mk tk ts tn tl).kind ≠ 3 ∨ (Ty.mk tk ts tn tl).kids.length ≠ (In.mk yc (Ty.mk yk ys yn yl) ycx ybs yp).hd.kids.length then [] else (In.mk yc (Ty.mk yk ys yn yl) ycx ybs yp).cx.map fun p => Pr.mk p.c (p.t.turn (putO (varsR (In.mk yc (Ty.mk yk ys yn yl) ycx ybs yp)) (Ty.mk tk ts tn tl).kids))) = R := hR
 rw [hR']
 simp only [En.cells, Ty.cells]
 refine Zv Tryz.func17 J (by kernel_rfl) J (Uk J) ?_
 refine Ye (Zg (Zc (Za 3 J J J (Yj (cs' := [_, _, _]) J J J J (Za 5 J J J (Yj (cs' := [_, _, _, _]) J J J J (Za 6 J J J (Zf J J (Vx (Zb (Zg (Zg ?_))))))))))))
 refine Wk 41 (tk ≠ 3 ∨ tl.length ≠ yl.length) Wi J ?_ _ _ J ?_
 ·skip
  refine Zk 14 J J (Zd J J ⟨J, J⟩) ?_
  refine Xn 15 J J (fun _ q => Ys J J J q) ?_; intro c15 h15
  refine Zk 16 J J (Zd J J ⟨J, J⟩) ?_
  rcases Zi h15 with ⟨rfl, g15⟩ | ⟨rfl, g15⟩
  ·skip
   refine Zs 17 J J J J (Zd J J ⟨J, J⟩) ?_
   refine Zs 18 J J J J (Zj J Wn J J ⟨J, J⟩) ?_
   refine Zs 19 J J J J (Zn J Vq J J ⟨J, J⟩) ?_
   refine Zs 20 J J J J (Yv J tu_36 J (.seq _ _) (fun _ => ⟨J, J⟩)) ?_
   refine Yy 21 J J J J (fun _ q => Xx J J J q) ?_; intro c21 h21
   refine Zk 22 J J (Zm J J J ⟨J, J⟩) ?_
   refine Zk 23 J J (Zd J J ⟨J, J⟩) ?_
   rcases Zi h21 with ⟨rfl, g21⟩ | ⟨rfl, g21⟩
   ·skip
    refine Zs 24 J J J J (Zj J Vt J J ⟨J, J⟩) ?_
    refine Zs 25 J J J J (Zn J Yz J J ⟨J, J⟩) ?_
    refine Yy 26 J J J J (fun _ q => Xp J J J q) ?_; intro c26 h26
    refine Zk 27 J J (Zm J J J ⟨J, J⟩) ?_
    refine Zk 28 J J (Zd J J ⟨J, J⟩) ?_
    rcases Zi h26 with ⟨rfl, g26⟩ | ⟨rfl, g26⟩
    ·skip
     refine Zs 29 J J J J (Zj J Xq J J ⟨J, J⟩) ?_
     refine Zs 30 J J J J (Zn J Wr J J ⟨J, J⟩) ?_
     refine Zs 31 J J J J (Yv J Vh J (.seq _ _) (fun _ => ⟨J, J⟩)) ?_
     refine Zs 32 J J J J (Zj J Wn J J ⟨J, J⟩) ?_
     refine Zs 33 J J J J (Zn J Vq J J ⟨J, J⟩) ?_
     refine Zs 34 J J J J (Zd J J ⟨J, J⟩) ?_
     refine Zs 35 J J J J (Yd J te_36 J (.seq _ _) J J (hcy) ⟨J, J⟩) ?_
     refine Zs 36 J J J J (Zj J Wv J J ⟨J, J⟩) ?_
     refine Zs 37 J J J J (Zj J Xq J J ⟨J, J⟩) ?_
     refine Zs 38 J J J J (Zn J Wr J J ⟨J, J⟩) ?_
     refine Zs 39 J J J J (Yv J Vh J (.seq _ _) (fun _ => ⟨J, J⟩)) ?_
     refine Yy 40 J J J J (fun _ q => Xp J J J q) ?_; intro c40 h40
     refine Zk 41 J J (Zm J J J ⟨J, J⟩) ?_
     show BoolQ _ _ _ _ _ _
     refine Ui J ?_ by5 by3
     first | (simp_all; done) | (simp_all; omega) | grind
    ·skip
     refine Ze 29 J J J J (Ze 30 J J J J (Ze 31 J J J J (Ze 32 J J J J (Ze 33 J J J J (Ze 34 J J J J ?_)))))
     refine Ze 35 J J J J (Ze 36 J J J J (Ze 37 J J J J (Ze 38 J J J J (Ze 39 J J J J (Ze 40 J J J J ?_)))))
     refine Zk 41 J J (Zm J J J ⟨J, J⟩) ?_
     show BoolQ _ _ _ _ _ _
     refine Ui J ?_ by5 by3
     first | (simp_all; done) | (simp_all; omega) | grind
   ·omega
  ·omega
 intro c41 h41
 refine Zb ?_
 rcases Zi h41 with ⟨rfl, g41⟩ | ⟨rfl, g41⟩
 ·refine Zq J (Zw (Zb (Zg ?_)))
  rw [if_neg g41] at hR
  refine Zc (Za 42 J J J (Zj J Wn J J (Za 43 J J J (Zn J Vq J J (Za 44 J J J (Zd J J (Za 45 J J J (Yd J te_36 J (.seq _ _) J J (hcy) (Za 46 J J J (Yb (cs' := [_, _, _, _, _, _, _, _]) J ta_73 J J J ?_))))))))))
  refine Za 7 J J J (Zy (cs' := [_, _, _, _, _, _, _, _]) J tz_73 J J ?_); intro b7
  refine Zt J J (Zr (cs' := [_, _, _, _, _, _, _, _]) (i := 0) J ts_73 J J J J J (Uk J) J (Vx (Zb (Zg (Zc (Za 8 J J J (Zf J J (Vx (Zb (Zg (Zg (Zc (Za 47 J J J (Zh J Wv J (Za 48 J J J (Zh J Xq J ?_))))))))))))))))
  refine Za 49 J J J (Zp (i := 0) J Wr J J J ?_)
  refine Za 50 J J J (Yv J Vh J (.seq _ _) (fun n50 => ?_))
  refine Za 51 J J J (Zd J J (Vx (Zb (Zz (Wg 9 1 ?_)))))
  apply Wm [0, 1, 2, 3, 4, 8, 9, 10, 12, 14, 15, 16, 17, 18, 19, 20, 21, 22, 23, 24, 25, 26, 27, 28, 29, 30, 31, 32, 33, 34, 35, 36, 37, 38, 39, 40, 41, 42, 43, 44, 45, 46, 47, 48, 51, 52, 53, 54, 55, 56, 57, 58, 59, 60] (σ := Nat × List ByteArray × Value) (fun zz => match zz with | (k, acc, u) => [(8, .own u 1 (strs acc)), (51, .val (.int .i64 k))]) (fun zz => match zz with | (k, acc, u) => [.loc b7 [.val (.string yc), .val (.int .i64 yk), .val (.string ys), .val (.int .i64 yn), .seq 4 (Ty.cellss yl), .seq 5 (Pr.cellss ycx), .seq 13 (Bi.cellss ybs), .val (.int .i64 yp)], .own 9 1 u]) (fun zz => match zz with | (k, acc, u) => k ≤ yl.length ∧ acc = (yl.take k).map Ty.name) (fun zz => match zz with | (k, acc, u) => yl.length - k) ((0, [], .slice none 0 0))
  ·repeat' (first | exact Un | apply Ul rfl | apply Um rfl)
  ·exact ⟨Nat.zero_le _, J⟩
  ·exact Uh J (Le.nilOwn 1) (Uh J (Ue _) (SLe.nil _))
  ·exact (Ud J)
  rintro ⟨k, acc, u⟩ hI
  try dsimp only [List.cons_append, List.nil_append] at hI ⊢
  obtain ⟨h1, ha⟩ := hI
  have hle : (strs acc).length ≤ 1000000 := by rw [Xw, ha, List.length_map, List.length_take]; omega
  refine Zg (Zc (Za 52 J J J (Ys J J J ?_))); intro c52 h52
  refine Vx (Zb (Zg ?_))
  rcases Zi h52 with ⟨rfl, g52⟩ | ⟨rfl, g52⟩
  ·refine Zq J (Xd (Xf (Xz (Xe (Zb (Zg ?_))))))
   rw [List.take_of_length_le (by omega)] at ha
   refine Zc (Za 11 J J J (Zf J J (Vx (Zb (Zg (Zg (Zc (Za 61 J J J (Zh J tf_73_2 J (Za 62 J J J (Zp (i := 0) J ta_22 J J J ?_)))))))))))
   refine Za 63 J J J (Yv J tu_22 J (.seq _ _) (fun n63 => ?_))
   refine Za 64 J J J (Zd J J (Vx (Zb (Zz (c_le (al' := [(5, .cptr [.val (.int .i64 tk), .val (.string ts), .val (.int .i64 tn), .seq 4 (Ty.cellss tl)]), (7, .ptr b7 0), (8, .seq 1 (strs acc)), (11, .val (.slice none 0 0)), (62, .seq 5 (Pr.cellss ycx)), (63, .val (.int .i64 (Pr.cellss ycx).length)), (64, .val (.int .i64 0))]) by4 (M' := []) (Vz _) ?_)))))
   refine Wg 27 5 ?_
   apply Wm [0, 1, 2, 3, 4, 7, 9, 10, 11, 12, 13, 14, 15, 16, 17, 18, 19, 20, 21, 22, 23, 24, 25, 26, 27, 28, 29, 30, 31, 32, 33, 34, 35, 36, 37, 38, 39, 40, 41, 42, 43, 44, 45, 46, 47, 48, 49, 50, 51, 52, 53, 54, 55, 56, 57, 58, 59, 60, 61, 64, 65, 66, 67, 68, 69, 70, 71, 72, 73, 74, 75, 76, 77, 78, 79, 80] (σ := Nat × List Pr × Value) (fun zz => match zz with | (k, out, w) => [(11, .own w 5 (Pr.cellss out)), (64, .val (.int .i64 k))]) (fun zz => match zz with | (k, out, w) => [.own 27 5 w]) (fun zz => match zz with | (k, out, w) => k ≤ ycx.length ∧ out = (ycx.take k).map fun p => Pr.mk p.c (p.t.turn (putO (yl.map Ty.name) tl))) (fun zz => match zz with | (k, out, w) => ycx.length - k) ((0, [], .slice none 0 0))
   ·repeat' (first | exact Un | apply Ul rfl | apply Um rfl)
   ·exact ⟨Nat.zero_le _, J⟩
   ·exact Uh J (Le.nilOwn 5) (Uh J (Ue _) (SLe.nil _))
   ·exact (Ud J)
   rintro ⟨k, out, w⟩ hI
   try dsimp only [List.cons_append, List.nil_append] at hI ⊢
   obtain ⟨h2, hb⟩ := hI
   have hle : (Pr.cellss out).length ≤ 1000000 := by rw [Pr.cellss_len, hb, List.length_map, List.length_take]; omega
   refine Zg (Zc (Za 65 J J J (Ys J J J ?_))); intro c65 h65
   refine Vx (Zb (Zg ?_))
   rcases Zi h65 with ⟨rfl, g65⟩ | ⟨rfl, g65⟩
   ·refine Zq J (Xd (Xf (Xz (Xe (Zb (Zg (Zc (Za 81 J J J (Zd J J (Za 6 J J J (Zf J J (Vx (Zb (Ya ?_))))))))))))))
    rw [List.take_of_length_le (by omega)] at hb; rw [← hR]; exact Yf rfl rfl (Le.own_seq (by rw [hb])) (Vz _) ⟨rfl, rfl⟩
   ·refine Zu J (Zw (Zb (Zg (Zz (Zg ?_)))))
    obtain ⟨q, hq⟩ := Yu (l := ycx) (i := k) (by omega)
    obtain ⟨qc, qs, rfl⟩ := hcv q (Uq hq)
    have hcq := Pr.cellss_get hq
    have hsn := We hq
    have HP := Put_c acc tl (Ty.mk 1 qs 0 []) hkz (by simp [Ty.size, Ty.sizes])
    obtain ⟨⟨rk, rs, rn, rl⟩, hr⟩ : ∃ t, (Ty.mk 1 qs 0 []).turn (putO acc tl) = t := ⟨_, rfl⟩
    rw [hr] at HP
    simp only [Pr.cells, Ty.cells] at hcq HP
    refine Zc (Za 66 J J J (Yd J te_22 J (.seq _ _) J J (hcq) (Za 67 J J J (Yb (cs' := [_, _, _, _, _]) J ta_27 J J J (Za 13 J J J (Zy (cs' := [_, _, _, _, _]) J tz_27 J J ?_)))))); intro b13
    refine Zt J J (Zr (cs' := [_, _, _, _, _]) (i := 0) J ts_27 J J J J J (Uk J) J (Vx (Zb (Wc [0, 1, 2, 3, 4, 5, 6, 7, 8, 9, 10, 11, 12] [11] [[], [], [1], [], [], [4], [], [6], [3, 4, 5, 6, 7], [1, 2, 3, 4, 5, 6, 7, 8], [1, 2, 3, 4, 5, 6, 7, 8, 9], [0, 1, 2, 3, 4, 5, 6, 7, 8, 9, 10], [0, 1, 2, 3, 4, 5, 6, 7, 8, 9, 10, 11]] Wi J (Yc 68 (none) (i := 0) J J J J J (Zd J J ⟨J, J⟩) ?_)))))
    refine Yc 69 (none) (i := 1) J J J J J (Zh J Wu J ⟨J, J⟩) ?_
    refine Yc 70 (some 0) (i := 2) J J J J J (Zp (i := 0) J Xb J J J ⟨J, J⟩) ?_
    refine Yc 71 (none) (i := 3) J J J J J (Zd J J ⟨J, J⟩) ?_
    refine Yc 72 (none) (i := 4) J J J J J (Zj J Xq J J ⟨J, J⟩) ?_
    refine Yc 73 (none) (i := 5) J J J J J (Zn J Wr J J ⟨J, J⟩) ?_
    refine Yc 74 (none) (i := 6) J J J J J (Zh J Wa J ⟨J, J⟩) ?_
    refine Yc 75 (some 0) (i := 7) J J J J J (Zx (cs' := [_, _, _, _]) (i := 0) J Xt J J J J ⟨J, J⟩) ?_
    refine Yc 76 (none) (i := 8) J J J J J (Yn (xs := [.tmp 71, .tmp 73, .tmp 75]) J J (HP) by1 ⟨J, J⟩) ?_
    refine Yc 77 (none) (i := 9) J J J J J (Yo (ns := [0, 1]) (xs := [.tmp 70, .tmp 76]) J tz_27 J tfl_27 J J J J ⟨J, J⟩) ?_
    refine Yc 78 (none) (i := 10) J J J J J (Yh (xs := [.tmp 77]) el_22 J J J J J J (Uk J) ⟨J, J⟩) ?_
    refine Xo 1 (i := 11) J J J J J (Xj (i := 0) el_22 J J J J (.seq _ _) by6 (fun u79 => ⟨_, J, ?_⟩))
    refine Yc 11 (none) (i := 12) J J J J J (Zf J J ⟨J, J⟩) ?_
    show AGo _ _ _ _ _ _ _
    refine Yw (Zb (Zc (Za 80 J J J (Yx J J J (Uo _ (by omega)) ?_))))
    refine Za 64 J J J (Zd J J (Vx (Xc ?_)))
    exact ⟨(k + 1, out ++ [Pr.mk qc (Ty.mk rk rs rn rl)], u79), ⟨by show k + 1 ≤ ycx.length; omega, by rw [hsn, List.map_append, hb, ← hr, ← ha]; rfl⟩, by show ycx.length - (k + 1) < ycx.length - k; omega, Uh J (Uj (by simp [Pr.cellss]; rfl)) by4, (Ub _ (Ud J))⟩
  ·refine Zu J (Zw (Zb (Zg (Zz (Zg ?_)))))
   obtain ⟨⟨zk, zs, zn, zl⟩, hz⟩ := Yu (l := yl) (i := k) (by omega)
   have hcz := Ty.cellss_get hz
   have hsn := We hz
   simp only [Ty.cells] at hcz
   refine Zc (Za 53 J J J (Yd J te_23 J (.seq _ _) J J (hcz) (Za 54 J J J (Yb (cs' := [_, _, _, _]) J Xt J J J (Za 10 J J J (Zy (cs' := [_, _, _, _]) J tz_25 J J ?_)))))); intro b10
   refine Zt J J (Zr (cs' := [_, _, _, _]) (i := 0) J ts_25 J J J J J (Uk J) J (Vx (Zb (Zc (Za 55 J J J (Zd J J (Za 56 J J J (Zh J Wd J (Za 57 J J J (Zp (i := 0) J Xb J J J (Za 58 J J J (Yh (xs := [.tmp 57]) Vv J J J J J J (Uk J) ?_))))))))))))
   refine Za 59 J J J (Xj (i := 2) Vv J J J J (.seq _ _) by6 ?_)
   intro u59
   refine Za 8 J J J (Zf J J (Vx (Yw (Zb (Zc (Za 60 J J J (Yx J J J (Uo _ (by omega)) ?_)))))))
   refine Za 51 J J J (Zd J J (Vx (Xc ?_)))
   exact ⟨(k + 1, acc ++ [zs], u59), ⟨by show k + 1 ≤ yl.length; omega, by rw [hsn, List.map_append, ha]; rfl⟩, by show yl.length - (k + 1) < yl.length - k; omega, Uh J (Uj (by rw [strs_app]; rfl)) by4, (Ub _ (Ud J))⟩
 ·refine Zu J (Zg (Zc (Za 6 J J J (Zf J J (Vx (Zb (Ya ?_)))))))
  rw [if_pos g41] at hR; subst hR; exact Yf rfl rfl (Le.nil _) (Vz _) ⟨rfl, rfl⟩
end Go.Proofs.YtknodnfbaofngaaGreat
namespace Go.Proofs.YtknodnfbaofngaaGreat
theorem progT_b (s : ByteArray) : PgB 70000 (progT s).1 := by
 have hL := scanT_len s
 unfold progT
 dsimp only
 split
 ·exact pg0_b.up (by omega)
 ·have k0 : POk (scanT s).1 302 (beginP (scanT s)) := by
   unfold beginP
   split
   ·unfold failP POk; simp
   ·unfold POk; simp
  exact (progL_b hL ((scanT s).1.length + 1) 0 _ pg0 k0 pg0_b).up (by omega)
theorem progT_g (s : ByteArray) : EnG (envOf (progT s).1) ∧ (progT s).1.bs.length ≤ 1000000 := by
 have h := progT_b s
 generalize (progT s).1 = x at h
 obtain ⟨da, cl, ins, bs⟩ := x
 obtain ⟨h1, h2, h3, h4, h5, h6, h7⟩ := h
 simp only [Pg.da, Pg.cl, Pg.ins, Pg.bs] at h1 h2 h3 h4 h5 h6 h7
 refine ⟨⟨⟨?_, h5, ?_, h6, ?_, fun x hx => (h7 x hx).1⟩, fun x hx => (h7 x hx).2⟩, ?_⟩
 ·show da.length ≤ 100000; omega
 ·show cl.length ≤ 100000; omega
 ·show ins.length ≤ 100000; omega
 ·show bs.length ≤ 1000000; omega
structure EnC (v : En) : Prop where
 g : EnG v
 un : ∀ (i : Nat) (x : In), v.ins[i]? = some x → instI v x.c x.hd.name = i
 var : ∀ x ∈ v.ins, ∀ p ∈ x.cx, p.t.name ∈ varsR x
 acy : ∀ c ∈ v.cl, ¬ c.s ∈ aboveR v c.s
theorem insts1_all (v : En) : ∀ (l : List In) (i : Nat), (insts1 v i l).1 = 0 → ∀ (k : Nat) (x : In), l[k]? = some x → (instR v (i + k) x).1 = 0
 | [], i, _, k, x, h => by simp at h
 | y :: l, i, h0, k, x, h => by
  rw [insts1] at h0
  by_cases hy : (instR v i y).1 ≠ 0
  ·rw [if_pos hy] at h0; exact absurd h0 hy
  rw [if_neg hy] at h0
  cases k with
  | zero => simp at h; subst h; simpa using hy
  | succ k =>
   have := insts1_all v l (i + 1) h0 k x (by simpa using h)
   rw [show i + (k + 1) = i + 1 + k by omega]; exact this
theorem ctxL0_all (v : En) (ns : List ByteArray) : ∀ (l pre : List Pr), ctxL0 v ns pre l = 0 → ∀ p ∈ l, p.t.name ∈ ns
 | [], pre, _, p, hp => by simp at hp
 | y :: l, pre, h, p, hp => by
  rw [ctxL0] at h
  split at h
  ·simp at h
  split at h
  ·simp at h
  rename_i _ hq
  split at h
  ·simp at h
  rcases List.mem_cons.1 hp with rfl | hp
  ·apply hasB_iff.1
   cases hh : hasB ns p.t.name with
   | true => rfl
   | false => exact absurd (Or.inr hh) hq
  ·exact ctxL0_all v ns l _ h p hp
theorem instR_zero {v : En} {i : Nat} {x : In} (h : (instR v i x).1 = 0) : ¬ instI v x.c x.hd.name < i ∧ ctxR v x = 0 := by
 unfold instR at h
 split at h
 ·simp at h
 rename_i hc
 cases hq : v.cl[(classI v x.c).toNat]? with
 | none =>
  obtain ⟨y, h1, _⟩ := findI_get (fun (c : Cl) => sameB c.s x.c) v.cl 0 (by unfold classI at hc; omega)
  unfold classI at hq
  simp at h1
  rw [hq] at h1; cases h1
 | some c =>
  rw [hq] at h
  simp only [] at h
  unfold instR1 at h
  split at h
  ·rename_i h1; exact absurd h h1
  split at h
  ·simp at h
  rename_i h2
  split at h
  ·rename_i h3; exact absurd h h3
  rename_i h3
  exact ⟨h2, by omega⟩
theorem findI_min {α : Type} (p : α → Bool) : ∀ (l : List α) (i k : Nat) (x : α), l[k]? = some x → p x = true → findI p l i ≤ i + k ∧ 0 ≤ findI p l i
 | [], i, k, x, h, _ => by simp at h
 | y :: l, i, k, x, h, hp => by
  rw [findI]
  split
  ·omega
  ·rename_i hy
   cases k with
   | zero => simp at h; subst h; exact absurd hp hy
   | succ k =>
    have := findI_min p l (i + 1) k x (by simpa using h) hp
    omega
theorem classes3_all (v : En) : ∀ l : List Cl, (classes3 v l).1 = 0 → ∀ c ∈ l, ¬ c.s ∈ aboveR v c.s
 | [], _, c, hc => by simp at hc
 | y :: l, h, c, hc => by
  rw [classes3] at h
  split at h
  ·simp at h
  rename_i hy
  rcases List.mem_cons.1 hc with rfl | hc
  ·exact fun q => hy (hasB_iff.2 q)
  ·exact classes3_all v l h c hc
theorem check_c {p : Pg} (hg : EnG (envOf p)) (h : (checkR p).1 = 0) : EnC (envOf p) := by
 unfold checkR at h
 dsimp only at h
 split at h
 ·rename_i q; exact absurd h q
 split at h
 ·rename_i q; exact absurd h q
 split at h
 ·rename_i q; exact absurd h q
 rename_i hcl hin
 have hcl : (classesR (envOf p)).1 = 0 := by omega
 have hin : (insts1 (envOf p) 0 (envOf p).ins).1 = 0 := by omega
 have hall : ∀ (i : Nat) (x : In), (envOf p).ins[i]? = some x → (instR (envOf p) i x).1 = 0 := fun i x hx => by
  have := insts1_all _ _ 0 hin i x hx
  simpa using this
 refine ⟨hg, fun i x hx => ?_, fun x hx q hq => ?_, ?_⟩
 ·have h1 := (instR_zero (hall i x hx)).1
  have h2 := findI_min (fun (y : In) => sameB y.c x.c && sameB y.hd.name x.hd.name) (envOf p).ins 0 i x hx (by simp [sameB])
  unfold instI at h1 ⊢
  omega
 ·obtain ⟨i, hi⟩ := List.mem_iff_getElem?.1 hx
  exact ctxL0_all _ _ _ _ (instR_zero (hall i x hi)).2 q hq
 ·unfold classesR at hcl
  split at hcl
  ·rename_i q; exact absurd hcl q
  split at hcl
  ·rename_i q; exact absurd hcl q
  split at hcl
  ·rename_i q; exact absurd hcl q
  rename_i q
  exact classes3_all _ _ (by omega)
def Edge (v : En) (c s : ByteArray) : Prop := 0 ≤ classI v c ∧ s ∈ supersOf v c
inductive Up (v : En) : ByteArray → ByteArray → Prop
 | one {c s : ByteArray} (h : Edge v c s) : Up v c s
 | step {c s x : ByteArray} (h : Edge v c s) (k : Up v s x) : Up v c x
theorem Up.trans {v : En} {a b c : ByteArray} (h : Up v a b) (k : Up v b c) : Up v a c := by
 induction h with
 | one h => exact .step h k
 | step h _ ih => exact .step h (ih k)
theorem overL_sound {O : ByteArray → List ByteArray → List ByteArray} {G : ByteArray → Prop} (HO : ∀ s met, G s → ∀ x ∈ O s met, x ∈ met ∨ G x) : ∀ (ss met : List ByteArray), (∀ s ∈ ss, G s) → ∀ x ∈ overL O ss met, x ∈ met ∨ G x
 | [], met, _, x, hx => .inl hx
 | s :: ss, met, h, x, hx => by
  unfold overL at hx
  by_cases hm : hasB met s = true
  ·rw [if_pos hm] at hx; exact overL_sound HO ss met (fun y hy => h y (by simp [hy])) x hx
  ·rw [if_neg hm] at hx
   rcases overL_sound HO ss _ (fun y hy => h y (by simp [hy])) x hx with q | q
   ·rcases HO s _ (h s (by simp)) x q with q | q
    ·rcases List.mem_append.1 q with q | q
     ·exact .inl q
     ·rw [List.mem_singleton.1 q]; exact .inr (h s (by simp))
    ·exact .inr q
   ·exact .inr q
theorem overF_sound (v : En) : ∀ (n : Nat) (c : ByteArray) (met : List ByteArray), ∀ x ∈ overF v n c met, x ∈ met ∨ Up v c x
 | 0, c, met, x, hx => .inl hx
 | n + 1, c, met, x, hx => by
  unfold overF at hx
  split at hx
  ·exact .inl hx
  ·rename_i hc
   exact overL_sound (G := fun x => Up v c x) (fun s met' hs x hx => by
    rcases overF_sound v n s met' x hx with q | q
    ·exact .inl q
    ·exact .inr (hs.trans q)) (supersOf v c) met (fun s hs => .one ⟨by omega, hs⟩) x hx
theorem overL_closed {v : En} {n : Nat} {O : ByteArray → List ByteArray → List ByteArray} (HG : ∀ s met, Grow (allSup v) met (O s met)) (HO : ∀ s met, lack (allSup v) met < n → (∀ y, Edge v s y → y ∈ O s met) ∧ (∀ y ∈ O s met, y ∉ met → ∀ z, Edge v y z → z ∈ O s met)) : ∀ (ss met : List ByteArray), (∀ s ∈ ss, s ∈ allSup v) → lack (allSup v) met ≤ n → (∀ y ∈ ss, y ∈ overL O ss met) ∧ (∀ y ∈ overL O ss met, y ∉ met → ∀ z, Edge v y z → z ∈ overL O ss met)
 | [], met, _, _ => ⟨by simp, fun y hy h => absurd hy h⟩
 | s :: ss, met, h, hl => by
  have hG := overL_grow HG ss
  unfold overL
  by_cases hm : hasB met s = true
  ·rw [if_pos hm]
   obtain ⟨h1, h2⟩ := overL_closed HG HO ss met (fun y hy => h y (by simp [hy])) hl
   refine ⟨fun y hy => ?_, h2⟩
   rcases List.mem_cons.1 hy with rfl | hy
   ·exact (hG met (fun y hy => h y (by simp [hy]))).2.2 _ (hasB_iff.1 hm)
   ·exact h1 y hy
  ·rw [if_neg hm]
   have hs := h s (by simp)
   have hlt := lack_lt hs hm
   have g1 := HG s (met ++ [s])
   have g2 := hG (O s (met ++ [s])) (fun y hy => h y (by simp [hy]))
   obtain ⟨k1, k2⟩ := HO s (met ++ [s]) (by omega)
   obtain ⟨h1, h2⟩ := overL_closed HG HO ss (O s (met ++ [s])) (fun y hy => h y (by simp [hy])) (by have := g1.2.1; omega)
   refine ⟨fun y hy => ?_, fun y hy hn z hz => ?_⟩
   ·rcases List.mem_cons.1 hy with rfl | hy
    ·exact g2.2.2 _ (g1.2.2 _ (by simp))
    ·exact h1 y hy
   ·by_cases hy1 : y ∈ O s (met ++ [s])
    ·by_cases e : y = s
     ·subst e; exact g2.2.2 _ (k1 z hz)
     ·exact g2.2.2 _ (k2 y hy1 (by simp [hn, e]) z hz)
    ·exact h2 y hy hy1 z hz
theorem overF_closed (v : En) : ∀ (n : Nat) (c : ByteArray) (met : List ByteArray), lack (allSup v) met < n → (∀ y, Edge v c y → y ∈ overF v n c met) ∧ (∀ y ∈ overF v n c met, y ∉ met → ∀ z, Edge v y z → z ∈ overF v n c met)
 | 0, c, met, h => by omega
 | n + 1, c, met, h => by
  unfold overF
  split
  ·rename_i hc
   exact ⟨fun y hy => absurd hy.1 (by omega), fun y hy hn => absurd hy hn⟩
  ·obtain ⟨h1, h2⟩ := overL_closed (n := n) (overF_grow v n) (fun s met hs => overF_closed v n s met hs) (supersOf v c) met (supersOf_sub v c) (by omega)
   exact ⟨fun y hy => h1 y hy.2, h2⟩
theorem above_iff (v : En) (c x : ByteArray) : x ∈ aboveR v c ↔ Up v c x := by
 constructor
 ·intro h
  rcases overF_sound v _ c [] x h with q | q
  ·simp at q
  ·exact q
 ·intro h
  obtain ⟨h1, h2⟩ := overF_closed v ((allSup v).length + 1) c [] (by rw [lack_nil]; omega)
  have h1 : ∀ y, Edge v c y → y ∈ aboveR v c := h1
  have h2 : ∀ y ∈ aboveR v c, ∀ z, Edge v y z → z ∈ aboveR v c := fun y hy => h2 y hy (by simp)
  have key : ∀ {a b : ByteArray}, Up v a b → (a = c ∨ a ∈ aboveR v c) → b ∈ aboveR v c := by
   intro a b k
   induction k with
   | one e =>
    rintro (rfl | q)
    ·exact h1 _ e
    ·exact h2 _ q _ e
   | step e _ ih =>
    rintro (rfl | q)
    ·exact ih (.inr (h1 _ e))
    ·exact ih (.inr (h2 _ q _ e))
  exact key h (.inl J)
theorem EnC.no_circle {v : En} (hv : EnC v) (c : ByteArray) : ¬ Up v c c := by
 intro h
 have h0 : 0 ≤ classI v c := by cases h with | one e => exact e.1 | step e _ => exact e.1
 obtain ⟨y, h1, h2, _⟩ := findI_get (fun (x : Cl) => sameB x.s c) v.cl 0 h0
 have := hv.acy y (Uq h1)
 rw [Ve.1 h2] at this
 exact this ((above_iff v c c).2 h)
def high (v : En) (c : ByteArray) : Nat := ((allSup v).filter fun s => hasB (aboveR v c) s).length
theorem filter_lt {α : Type} {p q : α → Bool} {l : List α} (h : ∀ x, p x = true → q x = true) {x : α} (hx : x ∈ l) (h1 : p x = false) (h2 : q x = true) : (l.filter p).length < (l.filter q).length := by
 induction l with
 | nil => simp at hx
 | cons y l ih =>
  have hle : ∀ l : List α, (l.filter p).length ≤ (l.filter q).length := by
   intro l
   induction l with
   | nil => simp
   | cons z l ih =>
    simp only [List.filter_cons]
    cases hp : p z with
    | true => simp [h z hp]; exact ih
    | false => cases hq : q z <;> simp <;> omega
  have := hle l
  simp only [List.filter_cons]
  rcases List.mem_cons.1 hx with rfl | hx
  ·simp [h1, h2]; omega
  ·have := ih hx
   cases hp : p y with
   | true => simp [h y hp]; omega
   | false => cases hq : q y <;> simp <;> omega
theorem EnC.high_lt {v : En} (hv : EnC v) {c s : ByteArray} (h : Edge v c s) : high v s < high v c := by
 refine filter_lt (fun x hx => ?_) (x := s) (supersOf_sub v c s h.2) ?_ ?_
 ·exact hasB_iff.2 ((above_iff v c x).2 (.step h ((above_iff v s x).1 (hasB_iff.1 hx))))
 ·cases q : hasB (aboveR v s) s with
  | false => rfl
  | true => exact absurd ((above_iff v s s).1 (hasB_iff.1 q)) (hv.no_circle s)
 ·exact hasB_iff.2 ((above_iff v c s).2 (.one h))
theorem up_next {v : En} {c x : ByteArray} (h : Up v c x) : 0 ≤ classI v c ∧ ∃ s ∈ supersOf v c, s = x ∨ x ∈ aboveR v s := by
 cases h with
 | one e => exact ⟨e.1, x, e.2, .inl rfl⟩
 | step e k => exact ⟨e.1, _, e.2, .inr ((above_iff v _ x).2 k)⟩
open Go.RowKit
set_option maxHeartbeats 4000000 in
set_option maxRecDepth 100000 in
theorem rPut_c (names : List ByteArray) (hnm : names.length ≤ 1000000) (ts : List Ty) (d : Nat) : ∀ t : Ty, t.size ≤ d → t.size ≤ 1000000 → PCall Tryz.prog 45 [.seq 1 (strs names), .seq 4 (Ty.cellss ts), .agg t.cells] (.agg (t.turn (putO names ts)).cells) := by
 induction d with
 | zero => intro t hd; have := Ty.size_pos t; omega
 | succ d ih =>
  rintro ⟨k, s, n, ks⟩ hd hmx
  have hl := Ty.cellss_len ks
  have hlt := Ty.cellss_len ts
  have hln := Xw names
  have hls := Ty.len_sizes ks
  rw [Ty.size] at hd hmx
  refine Zv Tryz.func45 J (by kernel_rfl) J (Uk J) ?_
  refine Ye ?_
  refine c_lens (t := 0) J (.seq _ _) (fun hmax => ?_)
  refine c_lens (t := 1) J (.seq _ _) (fun hmax1 => ?_)
  refine Zg (Zc (Za 5 J J J (op_boxe (cs' := [_, _, _, _]) J J J J ?_))); intro b5
  refine Za 6 J J J (Zy (cs' := [_, _, _, _]) J tz_25 J J ?_); intro b6
  refine Vx (Zb (Zg (Zg (Zc (Za 10 J J J (Zh J Vt J (Za 11 J J J (Zp (i := 1) J Yz J J J (Za 12 J J J (Yk J J J ?_)))))))))); intro c12 h12
  refine Vx (Zb ?_)
  rcases Zi h12 with ⟨rfl, g12⟩ | ⟨rfl, g12⟩
  ·refine Zq J (Zw (Zb (Zg ?_)))
   have hN : putO names ts (.mk k s n ks) = none := by
    first
     | exact putO_not g12
     | exact hu.elim (fun h => putO_out (by have h2 := h.2; rw [List.take_of_length_le (by omega)] at h2; rw [firstAt_out h2]; omega)) (fun h => h.2)
   refine Zc (Za 8 J J J (Zf J J (Vx (Zb (Zg (Zg (Zc (Za 9 J J J (Zf J J (Vx (Zb (Zz (ACode.ownNil (t := 8) 25 4 J ?_)))))))))))))
   refine c_loop (σ := Nat × Value) (fun zz => match zz with | (i, u) => [(0, .seq 1 (strs names)), (1, .seq 4 (Ty.cellss ts)), (5, .ptr b5 0), (6, .ptr b6 0), (8, .own u 4 (Ty.cellss (Ty.turns (putO names ts) (ks.take i)))), (9, .val (.int .i64 i))]) (fun zz => match zz with | (i, u) => [.own 25 4 u, .loc b6 zTy, .loc b5 (Ty.cells (.mk k s n ks))]) (fun zz => match zz with | (i, u) => i ≤ ks.length) (fun zz => match zz with | (i, u) => ks.length - i) ((0, .slice none 0 0)) ?_ ?_ ?_ ?_
   ·simp
   ·exact by4
   ·exact by3
   rintro ⟨i, u⟩ hI
   try dsimp only [List.cons_append, List.nil_append] at hI ⊢
   refine Zg (Zg (Zc (Za 36 J J J (Zd J J (Za 37 J J J (Zh J Xq J (Za 38 J J J (Zp (i := 2) J Wr J J J ?_))))))))
   refine Za 39 J J J (Yv J Vh J (.seq _ _) (fun n39 => ?_))
   refine Za 40 J J J (Ys J J J ?_); intro c40 h40
   refine Vx (Zb ?_)
   rcases Zi h40 with ⟨rfl, g40⟩ | ⟨rfl, g40⟩
   ·refine Zq J (Xd (Xf (Xz (Xe (Zb (Zg ?_))))))
    rw [List.take_of_length_le (by omega)]
    refine Zc (Za 54 J J J (Zx (cs' := [_, _, _, _]) (i := 2) J Xt J J J J (Za 55 J J J (Zd J J (Za 56 J J J (Yn (xs := [.tmp 54, .tmp 55]) J J (kids_c (.mk k s n ks) (Ty.turns (putO names ts) ks)) by1 ?_))))))
    refine Zt J J (Zr (cs' := [_, _, _, _]) (i := 1) J ts_25 J J J J J (Uk J) J (Vx (Zb (Ya ?_))))
    rw [Ty.turn_none hN]
    exact Ym (i := 1) J J J Xt J by2 by3 ⟨J, J⟩
   ·refine Zu J (Zw (Zb (Zg (Zz ?_))))
    obtain ⟨⟨k', s', n', ks'⟩, hx⟩ := Yu (l := ks) (i := i) (by omega)
    have hcx := Ty.cellss_get hx
    have hsz := Ty.size_at hx
    have H := ih (.mk k' s' n' ks') (by omega) (by omega)
    have he : Ty.cellss (Ty.turns (putO names ts) (ks.take (i + 1))) = Ty.cellss (Ty.turns (putO names ts) (ks.take i)) ++ [(Ty.turn (putO names ts) (.mk k' s' n' ks')).cells] := by rw [We hx, Ty.turns_snoc, Ty.cellss_app]; rfl
    generalize Ty.turn (putO names ts) (.mk k' s' n' ks') = r at H he
    obtain ⟨rk, rs, rn, rks⟩ := r
    refine Zc (Za 43 J J J (Zd J J (Za 44 J J J (Zd J J (Za 45 J J J (Zd J J (Za 46 J J J (Zh J Xq J (Za 47 J J J (Zp (i := 2) J Wr J J J ?_))))))))))
    refine Za 48 J J J (Zd J J (Za 49 J J J (Yd J te_23 J (.seq _ _) J J (by assumption) ?_)))
    refine Za 50 J J J (Yb (cs' := [_, _, _, _]) J Xt J J J (Za 51 J J J (Yn (xs := [.tmp 44, .tmp 45, .tmp 50]) J J (H) by1 ?_)))
    refine Za 52 J J J (Yh (xs := [.tmp 51]) el_23 J J J J J J (Uk J) ?_)
    refine Za 53 J J J (Xj (i := 0) el_23 J J J J (.seq _ _) (by simp [Ty.cellss_len, Ty.turns_len]; omega) ?_)
    intro u53
    refine Za 8 J J J (Zf J J (Vx (Yw (Zb (Zc (Za 41 J J J (Zd J J (Za 42 J J J (Yx J J J (Uo _ (by omega)) ?_)))))))))
    refine Za 9 J J J (Zf J J (Vx (Xc ?_)))
    exact ⟨(i + 1, u53), by simp; omega, by simp; omega, (by repeat' (first | exact SLe.nil _ | refine Uh J ?_ ?_ | exact Ue _ | exact Le.own _ _ _ | exact Le.nil _ | (refine Uj ?_; (rw [he]; rfl)) | (refine Le.own_seq ?_; (rw [he]; rfl)) | (refine Le.seq_eq ?_; (rw [he]; rfl)))), by3⟩
  ·refine Zu J (Zg (Zc (Za 7 J J J (Zf J J (Vx (Zb (Zz ?_)))))))
   refine c_loop (σ := Nat) (fun zz => match zz with | i => [(0, .seq 1 (strs names)), (1, .seq 4 (Ty.cellss ts)), (5, .ptr b5 0), (6, .ptr b6 0), (7, .val (.int .i64 i))]) (fun zz => match zz with | i => [.loc b6 zTy, .loc b5 (Ty.cells (.mk k s n ks))]) (fun zz => match zz with | i => i ≤ names.length + 1 ∧ (i ≤ names.length ∧ s ∉ names.take i ∨ i = names.length + 1 ∧ putO names ts (.mk k s n ks) = none)) (fun zz => match zz with | i => names.length + 1 - i) (0) ?_ ?_ ?_ ?_
   ·exact ⟨by omega, Or.inl ⟨by omega, by simp⟩⟩
   ·exact by4
   ·exact by3
   rintro i hI
   try dsimp only [List.cons_append, List.nil_append] at hI ⊢
   obtain ⟨hi, hu⟩ := hI
   refine Zg (Zg (Zc (Za 13 J J J (Zd J J (Za 14 J J J (Zd J J ?_))))))
   refine Za 15 J J J (Yv J tu_68 J (.seq _ _) (fun n15 => ?_))
   refine Za 16 J J J (Ys J J J ?_); intro c16 h16
   refine Vx (Zb ?_)
   rcases Zi h16 with ⟨rfl, g16⟩ | ⟨rfl, g16⟩
   ·refine Zq J (Xd (Xf (Xz (Xe (Zb (Zg ?_))))))
    have hN : putO names ts (.mk k s n ks) = none := by
     first
      | exact putO_not g12
      | exact hu.elim (fun h => putO_out (by have h2 := h.2; rw [List.take_of_length_le (by omega)] at h2; rw [firstAt_out h2]; omega)) (fun h => h.2)
    refine Zc (Za 8 J J J (Zf J J (Vx (Zb (Zg (Zg (Zc (Za 9 J J J (Zf J J (Vx (Zb (Zz (ACode.ownNil (t := 8) 25 4 J ?_)))))))))))))
    refine c_loop (σ := Nat × Value) (fun zz => match zz with | (i, u) => [(0, .seq 1 (strs names)), (1, .seq 4 (Ty.cellss ts)), (5, .ptr b5 0), (6, .ptr b6 0), (8, .own u 4 (Ty.cellss (Ty.turns (putO names ts) (ks.take i)))), (9, .val (.int .i64 i))]) (fun zz => match zz with | (i, u) => [.own 25 4 u, .loc b6 zTy, .loc b5 (Ty.cells (.mk k s n ks))]) (fun zz => match zz with | (i, u) => i ≤ ks.length) (fun zz => match zz with | (i, u) => ks.length - i) ((0, .slice none 0 0)) ?_ ?_ ?_ ?_
    ·simp
    ·exact by4
    ·exact by3
    rintro ⟨i, u⟩ hI
    try dsimp only [List.cons_append, List.nil_append] at hI ⊢
    refine Zg (Zg (Zc (Za 36 J J J (Zd J J (Za 37 J J J (Zh J Xq J (Za 38 J J J (Zp (i := 2) J Wr J J J ?_))))))))
    refine Za 39 J J J (Yv J Vh J (.seq _ _) (fun n39 => ?_))
    refine Za 40 J J J (Ys J J J ?_); intro c40 h40
    refine Vx (Zb ?_)
    rcases Zi h40 with ⟨rfl, g40⟩ | ⟨rfl, g40⟩
    ·refine Zq J (Xd (Xf (Xz (Xe (Zb (Zg ?_))))))
     rw [List.take_of_length_le (by omega)]
     refine Zc (Za 54 J J J (Zx (cs' := [_, _, _, _]) (i := 2) J Xt J J J J (Za 55 J J J (Zd J J (Za 56 J J J (Yn (xs := [.tmp 54, .tmp 55]) J J (kids_c (.mk k s n ks) (Ty.turns (putO names ts) ks)) by1 ?_))))))
     refine Zt J J (Zr (cs' := [_, _, _, _]) (i := 1) J ts_25 J J J J J (Uk J) J (Vx (Zb (Ya ?_))))
     rw [Ty.turn_none hN]
     exact Ym (i := 1) J J J Xt J by2 by3 ⟨J, J⟩
    ·refine Zu J (Zw (Zb (Zg (Zz ?_))))
     obtain ⟨⟨k', s', n', ks'⟩, hx⟩ := Yu (l := ks) (i := i) (by omega)
     have hcx := Ty.cellss_get hx
     have hsz := Ty.size_at hx
     have H := ih (.mk k' s' n' ks') (by omega) (by omega)
     have he : Ty.cellss (Ty.turns (putO names ts) (ks.take (i + 1))) = Ty.cellss (Ty.turns (putO names ts) (ks.take i)) ++ [(Ty.turn (putO names ts) (.mk k' s' n' ks')).cells] := by rw [We hx, Ty.turns_snoc, Ty.cellss_app]; rfl
     generalize Ty.turn (putO names ts) (.mk k' s' n' ks') = r at H he
     obtain ⟨rk, rs, rn, rks⟩ := r
     refine Zc (Za 43 J J J (Zd J J (Za 44 J J J (Zd J J (Za 45 J J J (Zd J J (Za 46 J J J (Zh J Xq J (Za 47 J J J (Zp (i := 2) J Wr J J J ?_))))))))))
     refine Za 48 J J J (Zd J J (Za 49 J J J (Yd J te_23 J (.seq _ _) J J (by assumption) ?_)))
     refine Za 50 J J J (Yb (cs' := [_, _, _, _]) J Xt J J J (Za 51 J J J (Yn (xs := [.tmp 44, .tmp 45, .tmp 50]) J J (H) by1 ?_)))
     refine Za 52 J J J (Yh (xs := [.tmp 51]) el_23 J J J J J J (Uk J) ?_)
     refine Za 53 J J J (Xj (i := 0) el_23 J J J J (.seq _ _) (by simp [Ty.cellss_len, Ty.turns_len]; omega) ?_)
     intro u53
     refine Za 8 J J J (Zf J J (Vx (Yw (Zb (Zc (Za 41 J J J (Zd J J (Za 42 J J J (Yx J J J (Uo _ (by omega)) ?_)))))))))
     refine Za 9 J J J (Zf J J (Vx (Xc ?_)))
     exact ⟨(i + 1, u53), by simp; omega, by simp; omega, (by repeat' (first | exact SLe.nil _ | refine Uh J ?_ ?_ | exact Ue _ | exact Le.own _ _ _ | exact Le.nil _ | (refine Uj ?_; (rw [he]; rfl)) | (refine Le.own_seq ?_; (rw [he]; rfl)) | (refine Le.seq_eq ?_; (rw [he]; rfl)))), by3⟩
   ·refine Zu J (Zw (Zb (Zg (Zz (Zg ?_)))))
    obtain ⟨y, hy⟩ := Yu (l := names) (i := i) (by omega)
    have hcy := strs_get hy
    refine Vk Wi J (Zk 19 J J (Zd J J ⟨J, J⟩) ?_)
    refine Zk 20 J J (Zd J J ⟨J, J⟩) ?_
    refine Zk 21 J J (Yd J te_68 J (.seq _ _) J J (by assumption) ⟨J, J⟩) ?_
    refine Zk 22 J J (Zn J Xb J J ⟨J, J⟩) ?_
    refine Zk 23 J J (Zh J Wd J ⟨J, J⟩) ?_
    refine Zk 24 J J (Zp (i := 1) J Xb J J J ⟨J, J⟩) ?_
    refine Xn 25 J J (fun _ q => Xv J J J q) ?_; intro c25 h25
    show AGo _ _ _ _ _ _ _
    refine Zb ?_
    rcases Zi h25 with ⟨rfl, g25⟩ | ⟨rfl, g25⟩
    ·refine Zq J (Zw (Yw (Zb (Zc (Za 17 J J J (Zd J J (Za 18 J J J (Yx J J J (Uo _ (by omega)) ?_))))))))
     refine Za 7 J J J (Zf J J (Vx (Xc ?_)))
     first | (rw [hln]; exact ⟨names.length + 1, ⟨by omega, Or.inr ⟨rfl, hB⟩⟩, by simp; omega, by4, by3⟩) | exact ⟨i + 1, ⟨by omega, by rcases hu with ⟨_, hu⟩ | hu; exact Or.inl ⟨by omega, not_mem_take hu hy g25⟩; omega⟩, by simp; omega, by4, by3⟩
    ·refine Zu J (Zg (Zg (Zc (Za 26 J J J (Zd J J (Za 27 J J J (Zd J J ?_)))))))
     refine Za 28 J J J (Yv J Vh J (.seq _ _) (fun n28 => ?_))
     refine Za 29 J J J (Ys J J J ?_); intro c29 h29
     refine Vx (Zb ?_)
     rcases Zi h29 with ⟨rfl, g29⟩ | ⟨rfl, g29⟩
     ·refine Zq J (Zw (Zb ?_))
      obtain ⟨_, hu⟩ : i ≤ names.length ∧ s ∉ names.take i := by rcases hu with hu | hu; exact hu; omega
      have hB : putO names ts (.mk k s n ks) = none := putO_big (by rw [firstAt_at hu (by rw [hy, g25])]; omega)
      refine Zc (Za 34 J J J (Zd J J ?_))
      refine Za 35 J J J (Yv J tu_68 J (.seq _ _) (fun n35 => ?_))
      refine Za 7 J J J (Zf J J (Vx (Yw (Zb (Zc (Za 17 J J J (Zd J J (Za 18 J J J (Yx J J J (Uo _ (by omega)) ?_)))))))))
      refine Za 7 J J J (Zf J J (Vx (Xc ?_)))
      first | (rw [hln]; exact ⟨names.length + 1, ⟨by omega, Or.inr ⟨rfl, hB⟩⟩, by simp; omega, by4, by3⟩) | exact ⟨i + 1, ⟨by omega, by rcases hu with ⟨_, hu⟩ | hu; exact Or.inl ⟨by omega, not_mem_take hu hy g25⟩; omega⟩, by simp; omega, by4, by3⟩
     ·refine Zu J (Zg ?_)
      obtain ⟨⟨yk, ys, yn, yks⟩, hz⟩ := Yu (l := ts) (i := i) (by omega)
      have hcz := Ty.cellss_get hz
      refine Zc (Za 30 J J J (Zd J J (Za 31 J J J (Zd J J (Za 32 J J J (Yd J te_23 J (.seq _ _) J J (by assumption) ?_))))))
      refine Za 33 J J J (Yb (cs' := [_, _, _, _]) J Xt J J J (Zt J J (Zr (cs' := [_, _, _, _]) (i := 0) J ts_25 J J J J J (Uk J) J (Vx (Zb (Ya ?_))))))
      obtain ⟨_, hu⟩ : i ≤ names.length ∧ s ∉ names.take i := by rcases hu with hu | hu; exact hu; omega
      have hR : Ty.turn (putO names ts) (.mk k s n ks) = .mk yk ys yn yks := by
       refine Ty.turn_some ?_
       rw [g12, putO_in (firstAt_at hu (by rw [hy, g25])), hz]
      rw [hR]
      exact Ym (i := 0) J J J Xt J by2 by3 ⟨J, J⟩
set_option maxHeartbeats 4000000 in
set_option maxRecDepth 100000 in
theorem rNeeds_out (v : En) (inst : Int) (t : Ty) (h : inst < 0 ∨ v.ins.length ≤ inst) : PCall Tryz.prog 18 [.agg v.cells, .val (.int .i64 inst), .agg t.cells] (.seq 5 []) := by
 obtain ⟨da, cl, ins⟩ := v
 obtain ⟨tk, ts, tn, tl⟩ := t
 have hli := In.cellss_len ins
 simp only [En.ins] at h
 simp only [En.cells, Ty.cells]
 refine Zv Tryz.func18 J (by kernel_rfl) J (Uk J) ?_
 refine Ye (Zg (Zc (Za 3 J J J (Yj (cs' := [_, _, _]) J J J J (Za 5 J J J (Yj (cs' := [_, _, _, _]) J J J J (Za 6 J J J (Zf J J (Vx (Zb (Zg (Zg ?_))))))))))))
 refine Wk 39 (True) Wi J ?_ _ _ J ?_
 ·skip
  refine Zk 12 J J (Zd J J ⟨J, J⟩) ?_
  refine Xn 13 J J (fun _ q => Ys J J J q) ?_; intro c13 h13
  refine Zk 14 J J (Zd J J ⟨J, J⟩) ?_
  rcases Zi h13 with ⟨rfl, g13⟩ | ⟨rfl, g13⟩
  ·skip
   refine Zs 15 J J J J (Zd J J ⟨J, J⟩) ?_
   refine Zs 16 J J J J (Zj J Wn J J ⟨J, J⟩) ?_
   refine Zs 17 J J J J (Zn J Vq J J ⟨J, J⟩) ?_
   refine Zs 18 J J J J (Yv J tu_36 J (.seq _ _) (fun _ => ⟨J, J⟩)) ?_
   refine Yy 19 J J J J (fun _ q => Xx J J J q) ?_; intro c19 h19
   refine Zk 20 J J (Zm J J J ⟨J, J⟩) ?_
   refine Zk 21 J J (Zd J J ⟨J, J⟩) ?_
   rcases Zi h19 with ⟨rfl, g19⟩ | ⟨rfl, g19⟩
   ·omega
   ·skip
    refine Ze 22 J J J J (Ze 23 J J J J (Ze 24 J J J J (Zk 25 J J (Zm J J J ⟨J, J⟩) ?_)))
    refine Zk 26 J J (Zd J J ⟨J, J⟩) ?_
    refine Ze 27 J J J J (Ze 28 J J J J (Ze 29 J J J J (Ze 30 J J J J (Ze 31 J J J J (Ze 32 J J J J ?_)))))
    refine Ze 33 J J J J (Ze 34 J J J J (Ze 35 J J J J (Ze 36 J J J J (Ze 37 J J J J (Ze 38 J J J J ?_)))))
    refine Zk 39 J J (Zm J J J ⟨J, J⟩) ?_
    show BoolQ _ _ _ _ _ _
    refine Ui J ?_ by5 by3
    simp
  ·skip
   refine Ze 15 J J J J (Ze 16 J J J J (Ze 17 J J J J (Ze 18 J J J J (Ze 19 J J J J (Zk 20 J J (Zm J J J ⟨J, J⟩) ?_)))))
   refine Zk 21 J J (Zd J J ⟨J, J⟩) ?_
   refine Ze 22 J J J J (Ze 23 J J J J (Ze 24 J J J J (Zk 25 J J (Zm J J J ⟨J, J⟩) ?_)))
   refine Zk 26 J J (Zd J J ⟨J, J⟩) ?_
   refine Ze 27 J J J J (Ze 28 J J J J (Ze 29 J J J J (Ze 30 J J J J (Ze 31 J J J J (Ze 32 J J J J ?_)))))
   refine Ze 33 J J J J (Ze 34 J J J J (Ze 35 J J J J (Ze 36 J J J J (Ze 37 J J J J (Ze 38 J J J J ?_)))))
   refine Zk 39 J J (Zm J J J ⟨J, J⟩) ?_
   show BoolQ _ _ _ _ _ _
   refine Ui J ?_ by5 by3
   simp
 intro c39 h39
 refine Zb ?_
 rcases Zi h39 with ⟨rfl, g39⟩ | ⟨rfl, g39⟩
 ·exact absurd trivial g39
 ·exact Zu J (Zg (Zc (Za 6 J J J (Zf J J (Vx (Zb (Ya (Yf J J (Le.nil _) (Vz _) ⟨J, J⟩))))))))
set_option maxHeartbeats 4000000 in
set_option maxRecDepth 100000 in
theorem rNeeds_in (v : En) (hv : EnG v) (i : Nat) (y : In) (hy : v.ins[i]? = some y) (t : Ty) : PCall Tryz.prog 18 [.agg v.cells, .val (.int .i64 i), .agg t.cells] (.seq 5 (Pr.cellss (if t.kind ≠ 3 ∨ t.kids.length ≠ y.hd.kids.length then [] else y.cx.map fun p => Pr.mk p.c (p.t.turn (putO (varsR y) t.kids))))) := by
 obtain ⟨hb1, _, hb3⟩ := hv.b.inss y (Uq hy)
 have hcv := hv.cv y (Uq hy)
 obtain ⟨da, cl, ins⟩ := v
 have hi := Vf hy
 have hcy := In.cellss_get hy
 have hli := In.cellss_len ins
 simp only [En.ins] at hi hcy hy
 obtain ⟨tk, ts, tn, tl⟩ := t
 have hlt := Ty.cellss_len tl
 obtain ⟨yc, ⟨yk, ys, yn, yl⟩, ycx, ybs, yp⟩ := y
 have hly := Ty.cellss_len yl
 have hlp := Pr.cellss_len ycx
 have hb1 : ycx.length ≤ 100000 := hb1
 have hb3 : yl.length ≤ 200000 := hb3
 have hcv : CtxV ycx := hcv
 simp only [In.cells, Ty.cells, List.cons_append, List.nil_append] at hcy
 obtain ⟨R, hR⟩ : ∃ R, (if tk ≠ 3 ∨ tl.length ≠ yl.length then [] else ycx.map fun p => Pr.mk p.c (p.t.turn (putO (yl.map Ty.name) tl))) = R := ⟨_, rfl⟩
 have hR' : (if (Ty.mk tk ts tn tl).kind ≠ 3 ∨ (Ty.mk tk ts tn tl).kids.length ≠ (In.mk yc (Ty.mk yk ys yn yl) ycx ybs yp).hd.kids.length then [] else (In.mk yc (Ty.mk yk ys yn yl) ycx ybs yp).cx.map fun p => Pr.mk p.c (p.t.turn (putO (varsR (In.mk yc (Ty.mk yk ys yn yl) ycx ybs yp)) (Ty.mk tk ts tn tl).kids))) = R := hR
 rw [hR']
 simp only [En.cells, Ty.cells]
 refine Zv Tryz.func18 J (by kernel_rfl) J (Uk J) ?_
 refine Ye (Zg (Zc (Za 3 J J J (Yj (cs' := [_, _, _]) J J J J (Za 5 J J J (Yj (cs' := [_, _, _, _]) J J J J (Za 6 J J J (Zf J J (Vx (Zb (Zg (Zg ?_))))))))))))
 refine Wk 39 (tk ≠ 3 ∨ tl.length ≠ yl.length) Wi J ?_ _ _ J ?_
 ·skip
  refine Zk 12 J J (Zd J J ⟨J, J⟩) ?_
  refine Xn 13 J J (fun _ q => Ys J J J q) ?_; intro c13 h13
  refine Zk 14 J J (Zd J J ⟨J, J⟩) ?_
  rcases Zi h13 with ⟨rfl, g13⟩ | ⟨rfl, g13⟩
  ·skip
   refine Zs 15 J J J J (Zd J J ⟨J, J⟩) ?_
   refine Zs 16 J J J J (Zj J Wn J J ⟨J, J⟩) ?_
   refine Zs 17 J J J J (Zn J Vq J J ⟨J, J⟩) ?_
   refine Zs 18 J J J J (Yv J tu_36 J (.seq _ _) (fun _ => ⟨J, J⟩)) ?_
   refine Yy 19 J J J J (fun _ q => Xx J J J q) ?_; intro c19 h19
   refine Zk 20 J J (Zm J J J ⟨J, J⟩) ?_
   refine Zk 21 J J (Zd J J ⟨J, J⟩) ?_
   rcases Zi h19 with ⟨rfl, g19⟩ | ⟨rfl, g19⟩
   ·skip
    refine Zs 22 J J J J (Zj J Vt J J ⟨J, J⟩) ?_
    refine Zs 23 J J J J (Zn J Yz J J ⟨J, J⟩) ?_
    refine Yy 24 J J J J (fun _ q => Xp J J J q) ?_; intro c24 h24
    refine Zk 25 J J (Zm J J J ⟨J, J⟩) ?_
    refine Zk 26 J J (Zd J J ⟨J, J⟩) ?_
    rcases Zi h24 with ⟨rfl, g24⟩ | ⟨rfl, g24⟩
    ·skip
     refine Zs 27 J J J J (Zj J Xq J J ⟨J, J⟩) ?_
     refine Zs 28 J J J J (Zn J Wr J J ⟨J, J⟩) ?_
     refine Zs 29 J J J J (Yv J Vh J (.seq _ _) (fun _ => ⟨J, J⟩)) ?_
     refine Zs 30 J J J J (Zj J Wn J J ⟨J, J⟩) ?_
     refine Zs 31 J J J J (Zn J Vq J J ⟨J, J⟩) ?_
     refine Zs 32 J J J J (Zd J J ⟨J, J⟩) ?_
     refine Zs 33 J J J J (Yd J te_36 J (.seq _ _) J J (hcy) ⟨J, J⟩) ?_
     refine Zs 34 J J J J (Zj J Wv J J ⟨J, J⟩) ?_
     refine Zs 35 J J J J (Zj J Xq J J ⟨J, J⟩) ?_
     refine Zs 36 J J J J (Zn J Wr J J ⟨J, J⟩) ?_
     refine Zs 37 J J J J (Yv J Vh J (.seq _ _) (fun _ => ⟨J, J⟩)) ?_
     refine Yy 38 J J J J (fun _ q => Xp J J J q) ?_; intro c38 h38
     refine Zk 39 J J (Zm J J J ⟨J, J⟩) ?_
     show BoolQ _ _ _ _ _ _
     refine Ui J ?_ by5 by3
     first | (simp_all; done) | (simp_all; omega) | grind
    ·skip
     refine Ze 27 J J J J (Ze 28 J J J J (Ze 29 J J J J (Ze 30 J J J J (Ze 31 J J J J (Ze 32 J J J J ?_)))))
     refine Ze 33 J J J J (Ze 34 J J J J (Ze 35 J J J J (Ze 36 J J J J (Ze 37 J J J J (Ze 38 J J J J ?_)))))
     refine Zk 39 J J (Zm J J J ⟨J, J⟩) ?_
     show BoolQ _ _ _ _ _ _
     refine Ui J ?_ by5 by3
     first | (simp_all; done) | (simp_all; omega) | grind
   ·omega
  ·omega
 intro c39 h39
 refine Zb ?_
 rcases Zi h39 with ⟨rfl, g39⟩ | ⟨rfl, g39⟩
 ·refine Zq J (Zw (Zb (Zg ?_)))
  rw [if_neg g39] at hR
  refine Zc (Za 40 J J J (Zj J Wn J J (Za 41 J J J (Zn J Vq J J (Za 42 J J J (Zd J J (Za 43 J J J (Yd J te_36 J (.seq _ _) J J (hcy) (Za 44 J J J (Yb (cs' := [_, _, _, _, _, _, _, _]) J ta_73 J J J ?_))))))))))
  refine Za 7 J J J (Zy (cs' := [_, _, _, _, _, _, _, _]) J tz_73 J J ?_); intro b7
  refine Zt J J (Zr (cs' := [_, _, _, _, _, _, _, _]) (i := 0) J ts_73 J J J J J (Uk J) J (Vx (Zb (Zg (Zc (Za 8 J J J (Zf J J (Vx (Zb (Zg (Zg (Zc (Za 9 J J J (Zf J J (Vx (Zb (Zz ?_)))))))))))))))))
  refine Wg 9 1 ?_
  apply Wm [0, 1, 2, 3, 4, 8, 9, 12, 13, 14, 15, 16, 17, 18, 19, 20, 21, 22, 23, 24, 25, 26, 27, 28, 29, 30, 31, 32, 33, 34, 35, 36, 37, 38, 39, 40, 41, 42, 43, 44, 45, 46, 47, 48, 49, 50, 51, 52, 53, 54, 55, 56, 57, 58, 59, 60, 61, 62] (σ := Nat × List ByteArray × Value) (fun zz => match zz with | (k, acc, u) => [(8, .own u 1 (strs acc)), (9, .val (.int .i64 k))]) (fun zz => match zz with | (k, acc, u) => [.loc b7 [.val (.string yc), .val (.int .i64 yk), .val (.string ys), .val (.int .i64 yn), .seq 4 (Ty.cellss yl), .seq 5 (Pr.cellss ycx), .seq 13 (Bi.cellss ybs), .val (.int .i64 yp)], .own 9 1 u]) (fun zz => match zz with | (k, acc, u) => k ≤ yl.length ∧ acc = (yl.take k).map Ty.name) (fun zz => match zz with | (k, acc, u) => yl.length - k) ((0, [], .slice none 0 0))
  ·repeat' (first | exact Un | apply Ul rfl | apply Um rfl)
  ·exact ⟨Nat.zero_le _, J⟩
  ·exact Uh J (Le.nilOwn 1) (Uh J (Ue _) (SLe.nil _))
  ·exact (Ud J)
  rintro ⟨k, acc, u⟩ hI
  try dsimp only [List.cons_append, List.nil_append] at hI ⊢
  obtain ⟨h1, ha⟩ := hI
  have hle : (strs acc).length ≤ 1000000 := by rw [Xw, ha, List.length_map, List.length_take]; omega
  refine Zg (Zg (Zc (Za 45 J J J (Zd J J (Za 46 J J J (Zh J Wv J (Za 47 J J J (Zh J Xq J (Za 48 J J J (Zp (i := 0) J Wr J J J ?_))))))))))
  refine Za 49 J J J (Yv J Vh J (.seq _ _) (fun n49 => ?_))
  refine Za 50 J J J (Ys J J J ?_); intro c50 h50
  refine Vx (Zb ?_)
  rcases Zi h50 with ⟨rfl, g50⟩ | ⟨rfl, g50⟩
  ·refine Zq J (Xd (Xf (Xz (Xe (Zb (Zg ?_))))))
   rw [List.take_of_length_le (by omega)] at ha
   have hal : acc.length ≤ 1000000 := by rw [ha, List.length_map]; omega
   refine Zc (Za 10 J J J (Zf J J (Vx (Zb (Zg (Zg (Zc (Za 11 J J J (Zf J J (Vx (Zb (Zz (c_le (al' := [(5, .cptr [.val (.int .i64 tk), .val (.string ts), .val (.int .i64 tn), .seq 4 (Ty.cellss tl)]), (7, .ptr b7 0), (8, .seq 1 (strs acc)), (10, .val (.slice none 0 0)), (11, .val (.int .i64 0))]) by4 (Vy _) ?_)))))))))))))
   refine Wg 27 5 ?_
   apply Wm [0, 1, 2, 3, 4, 9, 10, 11, 12, 13, 14, 15, 16, 17, 18, 19, 20, 21, 22, 23, 24, 25, 26, 27, 28, 29, 30, 31, 32, 33, 34, 35, 36, 37, 38, 39, 40, 41, 42, 43, 44, 45, 46, 47, 48, 49, 50, 51, 52, 53, 54, 55, 56, 57, 58, 59, 60, 61, 62, 63, 64, 65, 66, 67, 68, 69, 70, 71, 72, 73, 74, 75, 76, 77, 78, 79, 80, 81, 82, 83, 84, 85, 86, 87, 88, 89] (σ := Nat × List Pr × Value) (fun zz => match zz with | (k, out, w) => [(10, .own w 5 (Pr.cellss out)), (11, .val (.int .i64 k))]) (fun zz => match zz with | (k, out, w) => [.loc b7 [.val (.string yc), .val (.int .i64 yk), .val (.string ys), .val (.int .i64 yn), .seq 4 (Ty.cellss yl), .seq 5 (Pr.cellss ycx), .seq 13 (Bi.cellss ybs), .val (.int .i64 yp)], .own 27 5 w]) (fun zz => match zz with | (k, out, w) => k ≤ ycx.length ∧ out = (ycx.take k).map fun p => Pr.mk p.c (p.t.turn (putO (yl.map Ty.name) tl))) (fun zz => match zz with | (k, out, w) => ycx.length - k) ((0, [], .slice none 0 0))
   ·repeat' (first | exact Un | apply Ul rfl | apply Um rfl)
   ·exact ⟨Nat.zero_le _, J⟩
   ·exact Uh J (Le.nilOwn 5) (Uh J (Ue _) (SLe.nil _))
   ·exact (Ua _ (Ub _ (Vy _)))
   rintro ⟨k, out, w⟩ hI
   try dsimp only [List.cons_append, List.nil_append] at hI ⊢
   obtain ⟨h2, hb⟩ := hI
   have hle : (Pr.cellss out).length ≤ 1000000 := by rw [Pr.cellss_len, hb, List.length_map, List.length_take]; omega
   refine Zg (Zg (Zc (Za 63 J J J (Zd J J (Za 64 J J J (Zh J tf_73_2 J (Za 65 J J J (Zp (i := 0) J ta_22 J J J ?_))))))))
   refine Za 66 J J J (Yv J tu_22 J (.seq _ _) (fun n66 => ?_))
   refine Za 67 J J J (Ys J J J ?_); intro c67 h67
   refine Vx (Zb ?_)
   rcases Zi h67 with ⟨rfl, g67⟩ | ⟨rfl, g67⟩
   ·refine Zq J (Xd (Xf (Xz (Xe (Zb (Zg (Zc (Za 90 J J J (Zd J J (Za 6 J J J (Zf J J (Vx (Zb (Ya ?_))))))))))))))
    rw [List.take_of_length_le (by omega)] at hb; rw [← hR]; exact Yf rfl rfl (Le.own_seq (by rw [hb])) (Vz _) ⟨rfl, rfl⟩
   ·refine Zu J (Zw (Zb (Zg (Zz ?_))))
    obtain ⟨q, hq⟩ := Yu (l := ycx) (i := k) (by omega)
    obtain ⟨qc, qs, rfl⟩ := hcv q (Uq hq)
    have hcq := Pr.cellss_get hq
    have hsn := We hq
    have HP := rPut_c acc hal tl 1 (Ty.mk 1 qs 0 []) (by simp [Ty.size, Ty.sizes]) (by simp [Ty.size, Ty.sizes])
    obtain ⟨⟨rk, rs, rn, rl⟩, hr⟩ : ∃ t, (Ty.mk 1 qs 0 []).turn (putO acc tl) = t := ⟨_, rfl⟩
    rw [hr] at HP
    simp only [Pr.cells, Ty.cells] at hcq HP
    refine Wc [0, 1, 2, 3, 4, 5, 6, 7, 8, 9, 10, 11, 12, 13, 14, 15, 16, 17, 18, 19, 20] [19] [[], [], [1], [], [1, 2, 3], [1, 2, 3, 4], [1, 2, 3, 4, 5], [], [], [8], [], [10], [], [10, 11, 12], [10, 11, 12, 13], [10, 11, 12, 13, 14], [7, 8, 9, 10, 11, 12, 13, 14, 15], [1, 2, 3, 4, 5, 6, 7, 8, 9, 10, 11, 12, 13, 14, 15, 16], [1, 2, 3, 4, 5, 6, 7, 8, 9, 10, 11, 12, 13, 14, 15, 16, 17], [0, 1, 2, 3, 4, 5, 6, 7, 8, 9, 10, 11, 12, 13, 14, 15, 16, 17, 18], [0, 1, 2, 3, 4, 5, 6, 7, 8, 9, 10, 11, 12, 13, 14, 15, 16, 17, 18, 19]] Wi J (Yc 70 (none) (i := 0) J J J J J (Zd J J ⟨J, J⟩) ?_)
    refine Yc 71 (none) (i := 1) J J J J J (Zh J tf_73_2 J ⟨J, J⟩) ?_
    refine Yc 72 (some 0) (i := 2) J J J J J (Zp (i := 0) J ta_22 J J J ⟨J, J⟩) ?_
    refine Yc 73 (none) (i := 3) J J J J J (Zd J J ⟨J, J⟩) ?_
    refine Yc 74 (none) (i := 4) J J J J J (Yd J te_22 J (.seq _ _) J J (hcq) ⟨J, J⟩) ?_
    refine Yc 75 (none) (i := 5) J J J J J (Zj J Wu J J ⟨J, J⟩) ?_
    refine Yc 76 (none) (i := 6) J J J J J (Zn J Xb J J ⟨J, J⟩) ?_
    refine Yc 77 (none) (i := 7) J J J J J (Zd J J ⟨J, J⟩) ?_
    refine Yc 78 (none) (i := 8) J J J J J (Zj J Xq J J ⟨J, J⟩) ?_
    refine Yc 79 (none) (i := 9) J J J J J (Zn J Wr J J ⟨J, J⟩) ?_
    refine Yc 80 (none) (i := 10) J J J J J (Zh J tf_73_2 J ⟨J, J⟩) ?_
    refine Yc 81 (some 0) (i := 11) J J J J J (Zp (i := 0) J ta_22 J J J ⟨J, J⟩) ?_
    refine Yc 82 (none) (i := 12) J J J J J (Zd J J ⟨J, J⟩) ?_
    refine Yc 83 (none) (i := 13) J J J J J (Yd J te_22 J (.seq _ _) J J (hcq) ⟨J, J⟩) ?_
    refine Yc 84 (none) (i := 14) J J J J J (Zj J Wa J J ⟨J, J⟩) ?_
    refine Yc 85 (none) (i := 15) J J J J J (Yb (cs' := [_, _, _, _]) J Xt J J J ⟨J, J⟩) ?_
    refine Yc 86 (none) (i := 16) J J J J J (Yn (xs := [.tmp 77, .tmp 79, .tmp 85]) J J (HP) by1 ⟨J, J⟩) ?_
    refine Yc 87 (none) (i := 17) J J J J J (Yo (ns := [0, 1]) (xs := [.tmp 76, .tmp 86]) J tz_27 J tfl_27 J J J J ⟨J, J⟩) ?_
    refine Yc 88 (none) (i := 18) J J J J J (Yh (xs := [.tmp 87]) el_22 J J J J J J (Uk J) ⟨J, J⟩) ?_
    refine Xo 1 (i := 19) J J J J J (Xj (i := 0) el_22 J J J J (.seq _ _) by6 (fun u89 => ⟨_, J, ?_⟩))
    refine Yc 10 (none) (i := 20) J J J J J (Zf J J ⟨J, J⟩) ?_
    show AGo _ _ _ _ _ _ _
    refine Yw (Zb (Zc (Za 68 J J J (Zd J J (Za 69 J J J (Yx J J J (Uo _ (by omega)) ?_))))))
    refine Za 11 J J J (Zf J J (Vx (Xc ?_)))
    exact ⟨(k + 1, out ++ [Pr.mk qc (Ty.mk rk rs rn rl)], u89), ⟨by show k + 1 ≤ ycx.length; omega, by rw [hsn, List.map_append, hb, ← hr, ← ha]; rfl⟩, by show ycx.length - (k + 1) < ycx.length - k; omega, Uh J (Uj (by simp [Pr.cellss]; rfl)) by4, (Ud J)⟩
  ·refine Zu J (Zw (Zb (Zg (Zz ?_))))
   obtain ⟨⟨zk, zs, zn, zl⟩, hz⟩ := Yu (l := yl) (i := k) (by omega)
   have hcz := Ty.cellss_get hz
   have hsn := We hz
   simp only [Ty.cells] at hcz
   refine Zc (Za 53 J J J (Zd J J (Za 54 J J J (Zh J Wv J (Za 55 J J J (Zh J Xq J (Za 56 J J J (Zp (i := 0) J Wr J J J (Za 57 J J J (Zd J J ?_))))))))))
   refine Za 58 J J J (Yd J te_23 J (.seq _ _) J J (hcz) (Za 59 J J J (Zj J Wd J J (Za 60 J J J (Zn J Xb J J (Za 61 J J J (Yh (xs := [.tmp 60]) Vv J J J J J J (Uk J) (Za 62 J J J (Xj (i := 1) Vv J J J J (.seq _ _) by6 ?_)))))))))
   intro u62
   refine Za 8 J J J (Zf J J (Vx (Yw (Zb (Zc (Za 51 J J J (Zd J J (Za 52 J J J (Yx J J J (Uo _ (by omega)) ?_)))))))))
   refine Za 9 J J J (Zf J J (Vx (Xc ?_)))
   exact ⟨(k + 1, acc ++ [zs], u62), ⟨by show k + 1 ≤ yl.length; omega, by rw [hsn, List.map_append, ha]; rfl⟩, by show yl.length - (k + 1) < yl.length - k; omega, Uh J (Uj (by rw [strs_app]; rfl)) by4, (Ud J)⟩
 ·refine Zu J (Zg (Zc (Za 6 J J J (Zf J J (Vx (Zb (Ya ?_)))))))
  rw [if_pos g39] at hR; subst hR; exact Yf rfl rfl (Le.nil _) (Vz _) ⟨rfl, rfl⟩
theorem needsR_out {v : En} {inst : Int} {t : Ty} (h : inst < 0 ∨ v.ins.length ≤ inst) : needsR v inst t = [] := by
 unfold needsR
 cases hx : v.ins[inst.toNat]? with
 | none => rfl
 | some x =>
  have := Vf hx
  simp only []
  rw [if_pos (.inl (by omega))]
theorem needsR_in {v : En} {i : Nat} {y : In} (hy : v.ins[i]? = some y) (t : Ty) : needsR v i t = if t.kind ≠ 3 ∨ t.kids.length ≠ y.hd.kids.length then [] else y.cx.map fun p => Pr.mk p.c (p.t.turn (putO (varsR y) t.kids)) := by
 unfold needsR
 rw [show (i : Int).toNat = i by omega, hy]
 simp only []
 by_cases q : t.kind ≠ 3 ∨ t.kids.length ≠ y.hd.kids.length
 ·rw [if_pos q, if_pos (.inr q)]
 ·rw [if_neg q, if_neg (fun e => e.elim (by omega) q)]
theorem Needs_c (v : En) (hv : EnG v) (inst : Int) (t : Ty) (ht : t.size ≤ 1000000) : PCall Tryz.prog 17 [.agg v.cells, .val (.int .i64 inst), .agg t.cells] (.seq 5 (Pr.cellss (needsR v inst t))) := by
 by_cases h : inst < 0 ∨ v.ins.length ≤ inst
 ·rw [needsR_out h]; exact Needs_out v inst t h
 ·obtain ⟨i, rfl⟩ : ∃ i : Nat, inst = i := ⟨inst.toNat, by omega⟩
  obtain ⟨y, hy⟩ := Yu (l := v.ins) (i := i) (by omega)
  rw [needsR_in hy]; exact Needs_in v hv i y hy t ht
theorem rNeeds_c (v : En) (hv : EnG v) (inst : Int) (t : Ty) : PCall Tryz.prog 18 [.agg v.cells, .val (.int .i64 inst), .agg t.cells] (.seq 5 (Pr.cellss (needsR v inst t))) := by
 by_cases h : inst < 0 ∨ v.ins.length ≤ inst
 ·rw [needsR_out h]; exact rNeeds_out v inst t h
 ·obtain ⟨i, rfl⟩ : ∃ i : Nat, inst = i := ⟨inst.toNat, by omega⟩
  obtain ⟨y, hy⟩ := Yu (l := v.ins) (i := i) (by omega)
  rw [needsR_in hy]; exact rNeeds_in v hv i y hy t
end Go.Proofs.YtknodnfbaofngaaGreat
namespace Go.Proofs.YtknodnfbaofngaaGreat
inductive Pf where
 | mk (k : Int) (n : Int) (c : ByteArray) (ks : List Pf)
def Pf.k : Pf → Int | .mk k _ _ _ => k
def Pf.n : Pf → Int | .mk _ n _ _ => n
def Pf.c : Pf → ByteArray | .mk _ _ c _ => c
def Pf.ks : Pf → List Pf | .mk _ _ _ ks => ks
mutual
def Pf.size : Pf → Nat
 | .mk _ _ _ ks => 1 + Pf.sizes ks
def Pf.sizes : List Pf → Nat
 | [] => 0
 | t :: ts => t.size + Pf.sizes ts
end
theorem Pf.size_mem {t : Pf} : ∀ {ts : List Pf}, t ∈ ts → t.size ≤ Pf.sizes ts
 | [], h => by simp at h
 | u :: ts, h => by
  rw [Pf.sizes]
  rcases List.mem_cons.1 h with rfl | h
  ·omega
  ·have := Pf.size_mem h; omega
mutual
def Pf.cells : Pf → List AV
 | .mk k n c ks => [.val (.int .i64 k), .val (.int .i64 n), .val (.string c), .seq 4 (Pf.cellss ks)]
def Pf.cellss : List Pf → List (List AV)
 | [] => []
 | t :: ts => t.cells :: Pf.cellss ts
end
theorem Pf.cellss_map : ∀ ts : List Pf, Pf.cellss ts = ts.map Pf.cells
 | [] => by simp [Pf.cellss]
 | t :: ts => by simp [Pf.cellss, Pf.cellss_map ts]
theorem Pf.cellss_len (ts : List Pf) : (Pf.cellss ts).length = ts.length := by rw [Pf.cellss_map]; simp
theorem Pf.cellss_get {ts : List Pf} {i : Nat} {t : Pf} (h : ts[i]? = some t) : (Pf.cellss ts)[i]? = some t.cells := by rw [Pf.cellss_map]; simp [h]
theorem Pf.cellss_app (a b : List Pf) : Pf.cellss (a ++ b) = Pf.cellss a ++ Pf.cellss b := by simp [Pf.cellss_map]
theorem Pf.cellss_app' (a : List Pf) (x : Pf) : Pf.cellss (a ++ [x]) = Pf.cellss a ++ [x.cells] := by simp [Pf.cellss_map]
theorem Pf.cells_len (x : Pf) : x.cells.length = 4 := by cases x; simp [Pf.cells]
/- equality that the kernel can evaluate -/
mutual
def Ty.eqb : Ty → Ty → Bool
 | .mk k s n ks, .mk k' s' n' ks' => decide (k = k') && sameB s s' && decide (n = n') && Ty.eqbs ks ks'
def Ty.eqbs : List Ty → List Ty → Bool
 | [], [] => true
 | t :: ts, u :: us => t.eqb u && Ty.eqbs ts us
 | _, _ => false
end
mutual
theorem Ty.eqb_iff : ∀ a b : Ty, a.eqb b = true ↔ a = b
 | .mk k s n ks, .mk k' s' n' ks' => by
  rw [Ty.eqb]
  simp only [Bool.and_eq_true, decide_eq_true_eq, Ve, Ty.eqbs_iff ks ks', Ty.mk.injEq, and_assoc]
theorem Ty.eqbs_iff : ∀ a b : List Ty, Ty.eqbs a b = true ↔ a = b
 | [], [] => by simp [Ty.eqbs]
 | [], _ :: _ => by simp [Ty.eqbs]
 | _ :: _, [] => by simp [Ty.eqbs]
 | t :: ts, u :: us => by
  rw [Ty.eqbs]
  simp only [Bool.and_eq_true, Ty.eqb_iff t u, Ty.eqbs_iff ts us, List.cons.injEq]
end
def prB (a b : Pr) : Bool := sameB a.c b.c && a.t.eqb b.t
theorem prB_iff {a b : Pr} : prB a b = true ↔ a = b := by
 obtain ⟨c, t⟩ := a
 obtain ⟨d, u⟩ := b
 unfold prB
 simp only [Bool.and_eq_true, Ve, Ty.eqb_iff, Pr.c, Pr.t, Pr.mk.injEq]
/- the way up -/
def upI (v : En) (to c : ByteArray) : Int := findI (fun s => sameB s to || hasB (aboveR v s) to) (supersOf v c) 0
def climbF (v : En) (to : ByteArray) : Nat → ByteArray → Pf → Pf
 | 0, _, x => x
 | n + 1, c, x => if c = to then x else match (supersOf v c)[(upI v to c).toNat]? with
  | none => x
  | some s => climbF v to n s (.mk 2 (upI v to c) c [x])
theorem up_at {v : En} {to c : ByteArray} (h : to ∈ aboveR v c) : ∃ s, 0 ≤ upI v to c ∧ 0 ≤ classI v c ∧ (supersOf v c)[(upI v to c).toNat]? = some s ∧ Edge v c s ∧ (s = to ∨ to ∈ aboveR v s) := by
 obtain ⟨h1, s, hs, h2⟩ := up_next ((above_iff v c to).1 h)
 obtain ⟨i, hi⟩ := List.mem_iff_getElem?.1 hs
 have h3 := (findI_min (fun s => sameB s to || hasB (aboveR v s) to) (supersOf v c) 0 i s hi (by simp only [Bool.or_eq_true, Ve, hasB_iff]; exact h2)).2
 obtain ⟨y, h4, h5, _⟩ := findI_get _ _ _ h3
 simp only [Bool.or_eq_true, Ve, hasB_iff] at h5
 exact ⟨y, h3, h1, h4, ⟨h1, Uq h4⟩, h5⟩
def upF (v : En) (c to : ByteArray) (x : Pf) : Pf := climbF v to (high v c + 1) c x
/- the document's Prove -/
def pf0 : Pf := .mk 0 0 kE []
def givI (gs : List Pr) (p : Pr) : Int := findI (fun g => prB g p) gs 0
def supI (v : En) (gs : List Pr) (p : Pr) : Int := findI (fun (g : Pr) => g.t.eqb p.t && hasB (aboveR v g.c) p.c) gs 0
def supP (v : En) (gs : List Pr) (p : Pr) : Pf × Bool := match gs[(supI v gs p).toNat]? with
 | none => (pf0, false)
 | some g => if supI v gs p < 0 then (pf0, false) else (upF v g.c p.c (.mk 1 (supI v gs p) kE []), true)
def proveF (v : En) (gs : List Pr) : Nat → Pr → Pf × Bool
 | 0, _ => (pf0, false)
 | n + 1, p => if 0 ≤ givI gs p then (.mk 1 (givI gs p) kE [], true)
  else if fitsR v p = true ∧ ((needsR v (instI v p.c p.t.name) p.t).all fun q => (proveF v gs n q).2) = true then (.mk 3 (instI v p.c p.t.name) kE ((needsR v (instI v p.c p.t.name) p.t).map fun q => (proveF v gs n q).1), true)
  else supP v gs p
theorem EnC.needs_size {v : En} (hv : EnC v) {i : Int} {t : Ty} {q : Pr} (h : q ∈ needsR v i t) : q.t.size < t.size := by
 unfold needsR at h
 cases hx : v.ins[i.toNat]? with
 | none => rw [hx] at h; simp at h
 | some x =>
  rw [hx] at h
  simp only [] at h
  split at h
  ·simp at h
  rename_i hc
  obtain ⟨p, hp, rfl⟩ := List.mem_map.1 h
  have hm := Uq hx
  have hvar := hv.var x hm p hp
  obtain ⟨c, s, rfl⟩ := hv.g.cv x hm p hp
  have h1 := (firstAt_nonneg s (varsR x) 0).2 hvar
  have h2 := firstAt_lt s (varsR x) 0
  have h3 : (varsR x).length = t.kids.length := by unfold varsR; rw [List.length_map]; omega
  obtain ⟨j, hj⟩ : ∃ j : Nat, firstAt s (varsR x) 0 = j := ⟨_, (Int.toNat_of_nonneg h1).symm⟩
  obtain ⟨y, hy⟩ := Yu (l := t.kids) (i := j) (by omega)
  show ((Ty.mk 1 s 0 []).turn (putO (varsR x) t.kids)).size < t.size
  rw [Ty.turn_some (by rw [putO_in hj]; exact hy)]
  exact Ty.size_kid (Uq hy)
open Go.RowKit
mutual
def Pf.cnt : Pf → Int → Int
 | .mk _ _ _ ks, most => Pf.cnts ks 1 most
def Pf.cnts : List Pf → Int → Int → Int
 | [], n, _ => n
 | t :: ts, n, most => if n < most then Pf.cnts ts (n + t.cnt (most - n)) most else n
end
mutual
theorem Pf.cnt_bd : ∀ (t : Pf) (m : Int), 1 ≤ m → 1 ≤ t.cnt m ∧ t.cnt m ≤ m
 | .mk k n c ks, m, h => by
  rw [Pf.cnt]
  exact Pf.cnts_bd ks 1 m (by omega) h
theorem Pf.cnts_bd : ∀ (ts : List Pf) (n m : Int), 1 ≤ n → n ≤ m → 1 ≤ Pf.cnts ts n m ∧ Pf.cnts ts n m ≤ m
 | [], n, m, h, h' => by rw [Pf.cnts]; omega
 | t :: ts, n, m, h, h' => by
  rw [Pf.cnts]
  split
  ·have hb := Pf.cnt_bd t (m - n) (by omega)
   exact Pf.cnts_bd ts (n + t.cnt (m - n)) m (by omega) (by omega)
  ·omega
end
set_option maxHeartbeats 4000000 in
set_option maxRecDepth 100000 in
theorem nodes_c (d : Nat) : ∀ (t : Pf) (most : Int), t.size ≤ d → 1 ≤ most → most ≤ 1000000 → PCall Tryz.prog 22 [.agg t.cells, .val (.int .i64 most)] (.val (.int .i64 (t.cnt most))) := by
 induction d with
 | zero => intro t most hd; cases t; simp [Pf.size] at hd
 | succ d ih =>
  rintro ⟨k, n, s, ks⟩ most hd h1 h2
  have hl := Pf.cellss_len ks
  rw [Pf.size] at hd
  refine Zv Tryz.func22 J (by kernel_rfl) J (Uk J) ?_
  refine Ye ?_
  refine c_lena (t := 0) (j := 3) J J (.seq _ _) (fun hmax => ?_)
  refine Zg (Zc (Za 2 J J J (Yj (cs' := [_, _, _, _]) J J J J (Za 4 J J J (Zf J J (Vx (Zb (Zg (Zc (Za 5 J J J (Zf J J (Vx (Zb (Zg (Zg (Zc ?_))))))))))))))))
  refine Za 6 J J J (Zf J J (Vx (Zb (Zz ?_))))
  apply Xl [0, 3, 5, 6, 7, 8, 9, 10, 11, 12, 13, 14, 15, 16, 17, 18, 19, 20, 21, 22, 23, 24, 25, 26, 27, 28, 29] (σ := Nat × Int) (fun zz => match zz with | (i, m) => [(5, .val (.int .i64 m)), (6, .val (.int .i64 i))]) (fun zz => match zz with | (i, m) => i ≤ ks.length ∧ 1 ≤ m ∧ m ≤ most ∧ Pf.cnts (ks.drop i) m most = Pf.cnt (.mk k n s ks) most) (fun zz => match zz with | (i, m) => ks.length - i) ((0, 1))
  ·repeat' (first | exact Un | apply Ul rfl | apply Um rfl)
  ·exact ⟨Nat.zero_le _, by omega, h1, by rw [List.drop_zero, Pf.cnt]⟩
  ·exact by4
  rintro ⟨i, m⟩ hI
  try dsimp only [List.cons_append, List.nil_append] at hI ⊢
  obtain ⟨hi, m1, m2, hc⟩ := hI
  refine Zg (Zg (Xm 16 (i < ks.length ∧ m < most) ?_ _ _ J ?_))
  ·skip
   refine Za 7 J J J (Zd J J (Za 8 J J J (Zj J Vj J J (Za 9 J J J (Zn J ta_28 J J ?_)))))
   refine Za 10 J J J (Yv J tu_28 J (.seq _ _) (fun n10 => ?_))
   refine Za 11 J J J (Ys J J J ?_); intro c11 h11
   refine Za 12 J J J (Zd J J ?_)
   rcases Zi h11 with ⟨rfl, g11⟩ | ⟨rfl, g11⟩
   ·skip
    refine Zl 13 J J J J J (Zl 14 J J J J J (Zl 15 J J J J J (Za 16 J J J (Zm J J J (Vx (Ui J ?_ by5 by3))))))
    simp_all; omega
   ·skip
    refine Zo 13 J J J J J (Zd J J (Zo 14 J J J J J (Zd J J (Zo 15 J J J J J (Ys J J J ?_))))); intro c15 h15
    refine Za 16 J J J (Zm J J J (Vx (Ui J ?_ by5 by3)))
    simp_all; done
  intro c16 h16
  refine Zb ?_
  rcases Zi h16 with ⟨rfl, g16⟩ | ⟨rfl, g16⟩
  ·refine Zq J (Xd (Xf (Xz (Xe (Zb (Zg (Zc (Za 30 J J J (Zd J J (Za 4 J J J (Zf J J (Vx (Zb (Ya (Yf J J (Ue _) by3 ⟨?_, J⟩)))))))))))))))
   rw [← hc]
   by_cases e : i < ks.length
   ·obtain ⟨x, hx⟩ := Yu e
    rw [Xs hx, Pf.cnts, if_neg (fun q => g16 ⟨e, q⟩)]
   ·rw [List.drop_eq_nil_of_le (by omega), Pf.cnts]
  ·refine Zu J (Zw (Zb (Zg (Zz ?_))))
   obtain ⟨⟨k', n', s', ks'⟩, hx⟩ := Yu g16.1
   have hcx := Pf.cellss_get hx
   have hsz := Pf.size_mem (Uq hx)
   have hb := Pf.cnt_bd (.mk k' n' s' ks') (most - m) (by omega)
   refine Zc (Za 19 J J J (Zd J J (Za 20 J J J (Zj J Vj J J (Za 21 J J J (Zn J ta_28 J J (Za 22 J J J (Zd J J (Za 23 J J J (Yd J te_28 J (.seq _ _) J J (hcx) ?_))))))))))
   refine Za 24 J J J (Yb (cs' := [_, _, _, _]) J Vm J J J (Za 25 J J J (Zd J J (Za 26 J J J (Zd J J (Za 27 J J J (op_sub J J J (Uo _ (by omega)) ?_)))))))
   refine Za 28 J J J (Yn (xs := [.tmp 24, .tmp 27]) J J (ih (.mk k' n' s' ks') (most - m) (by omega) (by omega) (by omega)) by1 ?_)
   refine Za 29 J J J (Yx J J J (Uo _ (by omega)) ?_)
   refine Za 5 J J J (Zf J J (Vx (Yw (Zb (Zc (Za 17 J J J (Zd J J (Za 18 J J J (Yx J J J (Uo _ (by omega)) ?_)))))))))
   refine Za 6 J J J (Zf J J (Vx (Xc ?_)))
   refine ⟨(i + 1, m + Pf.cnt (.mk k' n' s' ks') (most - m)), ⟨by show i + 1 ≤ ks.length; omega, by show 1 ≤ m + _; omega, by show m + _ ≤ most; omega, ?_⟩, by show ks.length - (i + 1) < ks.length - i; omega, by4, by3⟩
   show Pf.cnts (ks.drop (i + 1)) (m + Pf.cnt (.mk k' n' s' ks') (most - m)) most = _
   rw [← hc, Xs hx, Pf.cnts, if_pos g16.2]
structure Ask where
 gs : List Pr
 p : Pr
 x : Pf
 deep : Int
 most : Int
def Ask.cells (a : Ask) : List AV := .seq 5 (Pr.cellss a.gs) :: (a.p.cells ++ (a.x.cells ++ [.val (.int .i64 a.deep), .val (.int .i64 a.most)]))
def Ask.small (a : Ask) : Prop := (∀ g ∈ a.gs, g.t.small 30 = true) ∧ a.gs.length ≤ 6 ∧ a.p.t.small 30 = true ∧ a.x.cnt 201 ≤ 200
set_option maxHeartbeats 4000000 in
set_option maxRecDepth 100000 in
theorem askSmall_c (a : Ask) : BCall Tryz.prog 10 [.agg a.cells] a.small := by
 obtain ⟨gs, ⟨pc, ⟨pk, ps, pn, pl⟩⟩, ⟨xk, xn, xc, xl⟩, deep, most⟩ := a
 have hl := Pr.cellss_len gs
 have H1 := Small_c (.mk pk ps pn pl) 30 (by decide) (by decide)
 have H2 := nodes_c _ (.mk xk xn xc xl) 201 (Nat.le_refl _) (by decide) (by decide)
 have H3 := fun g : Pr => Small_c g.t 30 (by decide) (by decide)
 unfold Ask.small
 simp only [Ask.cells, Pr.cells, Ty.cells, Pf.cells, Pr.t, List.cons_append, List.nil_append] at *
 obtain ⟨nx, hnx⟩ : ∃ z, (Pf.mk xk xn xc xl).cnt 201 = z := ⟨_, rfl⟩
 rw [hnx] at H2 ⊢
 refine Zv Tryz.func10 J (by kernel_rfl) J (Uk J) ?_
 refine Ye ?_
 refine c_lena (t := 0) (j := 0) J J (.seq _ _) (fun hmax => ?_)
 refine Zg (Zc (Za 1 J J J (Yj (cs' := [_, _, _, _, _, _, _, _, _, _, _, _]) J J J J (Za 2 J J J (Zf J J (Vx (Zb (Zg (Zg (Zc (Za 5 J J J (Zj J tf_32_0 J J (Za 6 J J J (Zn J ta_22 J J ?_))))))))))))))
 refine Za 7 J J J (Yv J tu_22 J (.seq _ _) (fun n7 => ?_))
 refine Za 8 J J J (Zd J J (Vx (Zb (Zz ?_))))
 apply Xl [0, 2, 3, 4, 5, 8, 9, 10, 11, 12, 13, 14, 15, 16] (σ := Nat) (fun zz => match zz with | i => [(8, .val (.int .i64 i))]) (fun zz => match zz with | i => i ≤ gs.length ∧ ∀ g ∈ gs.take i, g.t.small 30 = true) (fun zz => match zz with | i => gs.length - i) (0)
 ·repeat' (first | exact Un | apply Ul rfl | apply Um rfl)
 ·exact ⟨Nat.zero_le _, by simp⟩
 ·exact by4
 rintro i hI
 try dsimp only [List.cons_append, List.nil_append] at hI ⊢
 obtain ⟨hi, hf⟩ := hI
 refine Zg (Zc (Za 9 J J J (Ys J J J ?_))); intro c9 h9
 refine Vx (Zb (Zg ?_))
 rcases Zi h9 with ⟨rfl, g9⟩ | ⟨rfl, g9⟩
 ·refine Zq J (Xd (Xf (Xz (Xe (Zb (Zg ?_))))))
  rw [List.take_of_length_le (by omega)] at hf
  refine Xm 2 (gs.length ≤ 6 ∧ (Ty.mk pk ps pn pl).small 30 = true ∧ nx ≤ 200) ?_ _ _ J ?_
  ·skip
   refine Za 17 J J J (Zj J tf_32_0 J J (Za 18 J J J (Zn J ta_22 J J ?_)))
   refine Za 19 J J J (Yv J tu_22 J (.seq _ _) (fun n19 => ?_))
   refine Za 20 J J J (op_leq J J J ?_); intro c20 h20
   refine Za 21 J J J (Zd J J ?_)
   rcases Zi h20 with ⟨rfl, g20⟩ | ⟨rfl, g20⟩
   ·skip
    refine Zl 22 J J J J J (Zl 23 J J J J J (Zl 24 J J J J J (Zl 25 J J J J J (Za 26 J J J (Zm J J J (Za 27 J J J (Zd J J ?_)))))))
    refine Zl 28 J J J J J (Zl 29 J J J J J (Zl 30 J J J J J (Zl 31 J J J J J (Za 32 J J J (Zm J J J (Za 2 J J J (Zf J J ?_)))))))
    refine Vx (Ui J ?_ by5 by3)
    clear H1 H2 H3; first | (simp_all; done) | (simp_all; omega) | grind
   ·skip
    refine Zo 22 J J J J J (Zj J tf_32_1 J J (Zo 23 J J J J J (Zj J Wa J J (Zo 24 J J J J J (Yb (cs' := [_, _, _, _]) J Xt J J J (Zo 25 J J J J J (Yg (xs := [.tmp 24, .const (.int .i64 30)]) J J (H1) by1 ?_))))))); intro c25 h25
    refine Za 26 J J J (Zm J J J (Za 27 J J J (Zd J J ?_)))
    rcases Zi h25 with ⟨rfl, g25⟩ | ⟨rfl, g25⟩
    ·skip
     refine Zl 28 J J J J J (Zl 29 J J J J J (Zl 30 J J J J J (Zl 31 J J J J J (Za 32 J J J (Zm J J J (Za 2 J J J (Zf J J ?_)))))))
     refine Vx (Ui J ?_ by5 by3)
     clear H1 H2 H3; first | (simp_all; done) | (simp_all; omega) | grind
    ·skip
     refine Zo 28 J J J J J (Zj J tf_32_2 J J (Zo 29 J J J J J (Yb (cs' := [_, _, _, _]) J Vm J J J (Zo 30 J J J J J (Yn (xs := [.tmp 29, .const (.int .i64 201)]) J J (H2) by1 ?_)))))
     refine Zo 31 J J J J J (op_leq J J J ?_); intro c31 h31
     refine Za 32 J J J (Zm J J J (Za 2 J J J (Zf J J (Vx (Ui J ?_ by5 by3)))))
     clear H1 H2 H3; first | (simp_all; done) | (simp_all; omega) | grind
  intro c2 h2
  refine Zb (Ya ?_)
  exact Yf J J (Ue _) by3 ⟨⟨_, h2.trans ⟨fun q => ⟨hf, q⟩, fun q => q.2⟩, J⟩, J⟩
 ·refine Zu J (Zw (Zb (Zg (Zz (Zg ?_)))))
  obtain ⟨⟨gc, ⟨gtk, gts, gtn, gtl⟩⟩, hxg⟩ := Yu (l := gs) (i := i) by7
  have hcg := Pr.cellss_get hxg
  have hmg := Uq hxg
  have HGg := H3 (Pr.mk gc ⟨gtk, gts, gtn, gtl⟩)
  simp only [Ty.cells] at HGg
  have hsg := We hxg
  refine Zc (Za 10 J J J (Yd J te_22 J (.seq _ _) J J (hcg) (Za 11 J J J (Yb (cs' := [_, _, _, _, _]) J ta_27 J J J (Za 4 J J J (Zy (cs' := [_, _, _, _, _]) J tz_27 J J ?_)))))); intro b4
  refine Zt J J (Zr (cs' := [_, _, _, _, _]) (i := 0) J ts_27 J J J J J (Uk J) J (Vx (Zb (Zg (Zc (Za 12 J J J (Zh J Wa J (Za 13 J J J (Zx (cs' := [_, _, _, _]) (i := 0) J Xt J J J J (Za 14 J J J (Yg (xs := [.tmp 13, .const (.int .i64 30)]) J J (HGg) by1 ?_))))))))))); intro c14 h14
  refine Za 15 J J J (Wf J J ?_); intro c15 h15
  try replace h15 := nott h15 h14
  refine Vx (Zb ?_)
  rcases Zi h15 with ⟨rfl, g15⟩ | ⟨rfl, g15⟩
  ·refine Zq J (Zw (Yw (Zb (Zc (Za 16 J J J (Yx J J J (Uo _ (by omega)) ?_))))))
   refine Za 8 J J J (Zd J J (Vx (Xc ?_)))
   exact ⟨i + 1, ⟨by show i + 1 ≤ gs.length; omega, fun g hg => by rw [hsg] at hg; exact (List.mem_append.1 hg).elim (hf g) (fun q => by rw [List.mem_singleton.1 q]; exact Classical.not_not.1 g15)⟩, by show gs.length - (i + 1) < gs.length - i; omega, by4, by3⟩
  ·refine Zu J (Zg (Zc (Za 2 J J J (Zf J J (Vx (Zb (Ya ?_)))))))
   exact Yf J J (Ue _) by3 ⟨⟨false, by simp only [Bool.false_eq_true, false_iff]; exact fun q => g15 (q.1 _ hmg), J⟩, J⟩
theorem rel_agg' {F : EH} {v : Value} {cs : List AV} (hl : cs.length ≠ 1) (h : Rels F cs v.cells.toList) (h1 : Ones v.cells.toList) : Rel F (.agg cs) v := by
 refine rel_agg ?_ h h1
 have := h.len
 cases v <;> first | exact ⟨_, rfl⟩ | (exfalso; exact hl (by rw [this]; rfl))
theorem cellsOf_pr : Tryz.prog.cellsOf 27 = 5 := by kernel_rfl
theorem cellsOf_pf : Tryz.prog.cellsOf 30 = 4 := by kernel_rfl
theorem shape_pr {fuel : Nat} {cs : List AV} (h : ShapeC Tryz.prog fuel 27 cs) : ∃ t : Pr, cs = t.cells := by
 obtain ⟨n, hn, h⟩ := shape_struct Tryz.underlying27 h
 simp only [ShapeF] at h
 obtain ⟨a1, b1, rfl, h1, a2, b2, rfl, h2, rfl⟩ := h
 obtain ⟨s, _, rfl⟩ := shape_str Wx h1
 obtain ⟨t, rfl⟩ := shape_ty _ _ h2
 exact ⟨.mk s t, by simp [Pr.cells]⟩
theorem shape_prs {fuel : Nat} {cs : List AV} (h : ShapeC Tryz.prog fuel 22 cs) : ∃ ts : List Pr, cs = [.seq 5 (Pr.cellss ts)] := by
 obtain ⟨n', es, _, rfl, h5⟩ := shape_slice tu_22 h
 obtain ⟨ts, rfl⟩ := pick_all (f := Pr.cells) (fun x hx => shape_pr (h5 x hx))
 exact ⟨ts, by rw [cellsOf_pr, ← Pr.cellss_map]⟩
theorem shape_pf (fuel : Nat) : ∀ cs, ShapeC Tryz.prog fuel 30 cs → ∃ t : Pf, cs = t.cells := by
 induction fuel using Nat.strongRecOn with
 | _ fuel ih =>
  intro cs h
  obtain ⟨n, hn, h⟩ := shape_struct Tryz.underlying30 h
  simp only [ShapeF] at h
  obtain ⟨a1, b1, rfl, h1, a2, b2, rfl, h2, a3, b3, rfl, h3, a4, b4, rfl, h4, rfl⟩ := h
  obtain ⟨k, _, rfl⟩ := shape_int tu_3 h1
  obtain ⟨m, _, rfl⟩ := shape_int tu_3 h2
  obtain ⟨s, _, rfl⟩ := shape_str Wx h3
  obtain ⟨n', es, hn', rfl, h5⟩ := shape_slice tu_28 h4
  obtain ⟨ts, rfl⟩ := pick_all (f := Pf.cells) (fun x hx => ih n' (by omega) x (h5 x hx))
  refine ⟨.mk k m s ts, ?_⟩
  rw [cellsOf_pf, ← Pf.cellss_map]
  simp [Pf.cells]
theorem shape_ask {fuel : Nat} {cs : List AV} (h : ShapeC Tryz.prog fuel 32 cs) : ∃ a : Ask, cs = a.cells := by
 obtain ⟨n, hn, h⟩ := shape_struct Tryz.underlying32 h
 simp only [ShapeF] at h
 obtain ⟨a1, b1, rfl, h1, a2, b2, rfl, h2, a3, b3, rfl, h3, a4, b4, rfl, h4, a5, b5, rfl, h5, rfl⟩ := h
 obtain ⟨gs, rfl⟩ := shape_prs h1
 obtain ⟨p, rfl⟩ := shape_pr h2
 obtain ⟨x, rfl⟩ := shape_pf _ _ h3
 obtain ⟨d, _, rfl⟩ := shape_int tu_3 h4
 obtain ⟨m, _, rfl⟩ := shape_int tu_3 h5
 exact ⟨⟨gs, p, x, d, m⟩, by simp [Ask.cells]⟩
theorem Ask.cells_len (a : Ask) : a.cells.length = 12 := by
 obtain ⟨gs, ⟨pc, ⟨pk, ps, pn, pl⟩⟩, ⟨xk, xn, xc, xl⟩, deep, most⟩ := a
 rfl
abbrev S12 : List TypeId := [9, 3, 25, 23, 27, 22, 30, 28, 32]
theorem closed12 : closedT Tryz.prog S12 = true := by kernel_rfl
end Go.Proofs.YtknodnfbaofngaaGreat
namespace Go.Proofs.YtknodnfbaofngaaGreat
def fitsP (y : In) (p : Pr) : Prop := y.c = p.c ∧ p.t.kind = 3 ∧ y.hd.name = p.t.name ∧ y.hd.kids.length = p.t.kids.length
mutual
def holdsP (v : En) (gs : List Pr) : Pf → Pr → Prop
 | .mk k n c ks, p =>
  (k = 1 ∧ c = kE ∧ ks.length = 0 ∧ 0 ≤ n ∧ gs[n.toNat]? = some p) ∨
  (k = 2 ∧ 0 ≤ classI v c ∧ 0 ≤ n ∧ (supersOf v c)[n.toNat]? = some p.c ∧ holdsL v gs ks [.mk c p.t]) ∨
  (k = 3 ∧ c = kE ∧ 0 ≤ n ∧ (∃ y, v.ins[n.toNat]? = some y ∧ fitsP y p) ∧ holdsL v gs ks (needsR v n p.t))
def holdsL (v : En) (gs : List Pr) : List Pf → List Pr → Prop
 | [], [] => True
 | x :: xs, q :: qs => holdsP v gs x q ∧ holdsL v gs xs qs
 | _, _ => False
end
theorem holdsL_len {v : En} {gs : List Pr} : ∀ {xs : List Pf} {qs : List Pr}, holdsL v gs xs qs → xs.length = qs.length
 | [], [], _ => rfl
 | [], _ :: _, h => by simp [holdsL] at h
 | _ :: _, [], h => by simp [holdsL] at h
 | x :: xs, q :: qs, h => by
  rw [holdsL] at h
  simp [holdsL_len h.2]
theorem holdsL_one {v : En} {gs : List Pr} {ks : List Pf} {q : Pr} : holdsL v gs ks [q] ↔ ∃ x, ks = [x] ∧ holdsP v gs x q := by
 constructor
 ·intro h
  have hl := holdsL_len h
  obtain ⟨x, rfl⟩ := List.length_eq_one_iff.1 hl
  rw [holdsL] at h
  exact ⟨x, J, h.1⟩
 ·rintro ⟨x, rfl, h⟩
  rw [holdsL]
  exact ⟨h, by rw [holdsL]; trivial⟩
theorem holds_1 {v : En} {gs : List Pr} {n : Int} {c : ByteArray} {ks : List Pf} {p : Pr} : holdsP v gs (.mk 1 n c ks) p ↔ (c = kE ∧ ks.length = 0 ∧ 0 ≤ n ∧ gs[n.toNat]? = some p) := by
 rw [holdsP]; simp
theorem holds_2 {v : En} {gs : List Pr} {n : Int} {c : ByteArray} {ks : List Pf} {p : Pr} : holdsP v gs (.mk 2 n c ks) p ↔ (0 ≤ classI v c ∧ 0 ≤ n ∧ (supersOf v c)[n.toNat]? = some p.c ∧ holdsL v gs ks [.mk c p.t]) := by
 rw [holdsP]; simp
theorem holds_3 {v : En} {gs : List Pr} {n : Int} {c : ByteArray} {ks : List Pf} {p : Pr} : holdsP v gs (.mk 3 n c ks) p ↔ (c = kE ∧ 0 ≤ n ∧ (∃ y, v.ins[n.toNat]? = some y ∧ fitsP y p) ∧ holdsL v gs ks (needsR v n p.t)) := by
 rw [holdsP]; simp
theorem holds_0 {v : En} {gs : List Pr} {k n : Int} {c : ByteArray} {ks : List Pf} {p : Pr} (h1 : k ≠ 1) (h2 : k ≠ 2) (h3 : k ≠ 3) : ¬ holdsP v gs (.mk k n c ks) p := by
 rw [holdsP]; simp [h1, h2, h3]
open Go.RowKit
set_option maxHeartbeats 4000000 in
set_option maxRecDepth 100000 in
theorem rSame_c (a b : Pr) : BCall Tryz.prog 34 [.agg a.cells, .agg b.cells] (a = b) := by
 have H := SameType_c a.t b.t
 obtain ⟨ac, at_⟩ := a
 obtain ⟨bc, bt⟩ := b
 simp only [Pr.t] at H
 have he : (Pr.mk ac at_ = Pr.mk bc bt) ↔ (ac = bc ∧ at_ = bt) := by simp
 rw [show (Pr.mk ac at_ = Pr.mk bc bt) = (ac = bc ∧ at_ = bt) from propext he]
 generalize hp : (at_ = bt) = p at *
 clear he hp
 obtain ⟨ak, as_, an, al⟩ := at_
 obtain ⟨bk, bs, bn, bl⟩ := bt
 simp only [Pr.cells, Ty.cells] at H ⊢
 refine Zv Tryz.func34 J (by kernel_rfl) J (Uk J) ?_
 refine Ye (Zg (Zc (Za 2 J J J (Yj (cs' := [_, _, _, _, _]) J J J J (Za 3 J J J (Yj (cs' := [_, _, _, _, _]) J J J J (Za 4 J J J (Zf J J (Vx (Zb (Zg ?_)))))))))))
 refine Xm 4 (ac = bc ∧ p) ?_ _ _ J ?_
 ·skip
  refine Za 5 J J J (Zj J Wu J J (Za 6 J J J (Zn J Xb J J (Za 7 J J J (Zj J Wu J J (Za 8 J J J (Zn J Xb J J (Za 9 J J J (Xv J J J ?_))))))))); intro c9 h9
  refine Za 10 J J J (Zd J J ?_)
  rcases Zi h9 with ⟨rfl, g9⟩ | ⟨rfl, g9⟩
  ·skip
   refine Zl 11 J J J J J (Zl 12 J J J J J (Zl 13 J J J J J (Zl 14 J J J J J (Zl 15 J J J J J (Za 16 J J J (Zm J J J ?_))))))
   refine Za 4 J J J (Zf J J (Vx (Ui J ?_ by5 by3)))
   clear H; first | (simp_all; done) | grind
  ·skip
   refine Zo 11 J J J J J (Zj J Wa J J (Zo 12 J J J J J (Yb (cs' := [_, _, _, _]) J Xt J J J (Zo 13 J J J J J (Zj J Wa J J (Zo 14 J J J J J (Yb (cs' := [_, _, _, _]) J Xt J J J (Zo 15 J J J J J (Yg (xs := [.tmp 12, .tmp 14]) J J (H) by1 ?_))))))))); intro c15 h15
   refine Za 16 J J J (Zm J J J (Za 4 J J J (Zf J J (Vx (Ui J ?_ by5 by3)))))
   clear H; first | (simp_all; done) | grind
 intro c4 h4
 exact Zb (Ya (Yf J J (Ue _) by3 ⟨⟨_, h4, J⟩, J⟩))
set_option maxHeartbeats 4000000 in
set_option maxRecDepth 100000 in
theorem rFits_c (x : In) (p : Pr) : BCall Tryz.prog 35 [.agg x.cells, .agg p.cells] (x.c = p.c ∧ p.t.kind = 3 ∧ x.hd.name = p.t.name ∧ x.hd.kids.length = p.t.kids.length) := by
 obtain ⟨xc, ⟨xk, xs, xn, xl⟩, xcx, xbs, xp⟩ := x
 obtain ⟨pc, ⟨pk, ps, pn, pl⟩⟩ := p
 have hx := Ty.cellss_len xl
 have hp := Ty.cellss_len pl
 simp only [In.cells, Pr.cells, Ty.cells, In.c, In.hd, Pr.c, Pr.t, Ty.kind, Ty.name, Ty.kids, List.cons_append, List.nil_append]
 refine Zv Tryz.func35 J (by kernel_rfl) J (Uk J) ?_
 refine Ye (Zg (Zc (Za 2 J J J (Yj (cs' := [_, _, _, _, _, _, _, _]) J J J J (Za 3 J J J (Yj (cs' := [_, _, _, _, _]) J J J J (Za 4 J J J (Zf J J (Vx (Zb (Zg ?_)))))))))))
 refine Xm 4 (xc = pc ∧ pk = 3 ∧ xs = ps ∧ xl.length = pl.length) ?_ _ _ J ?_
 ·skip
  refine Za 5 J J J (Zj J tf_73_0 J J (Za 6 J J J (Zn J Xb J J (Za 7 J J J (Zj J Wu J J (Za 8 J J J (Zn J Xb J J (Za 9 J J J (Xv J J J ?_))))))))); intro c9 h9
  refine Za 10 J J J (Zd J J ?_)
  rcases Zi h9 with ⟨rfl, g9⟩ | ⟨rfl, g9⟩
  ·skip
   refine Zl 11 J J J J J (Zl 12 J J J J J (Zl 13 J J J J J (Zl 14 J J J J J (Za 15 J J J (Zm J J J (Za 16 J J J (Zd J J ?_)))))))
   refine Zl 17 J J J J J (Zl 18 J J J J J (Zl 19 J J J J J (Zl 20 J J J J J (Zl 21 J J J J J (Zl 22 J J J J J ?_)))))
   refine Zl 23 J J J J J (Za 24 J J J (Zm J J J (Za 25 J J J (Zd J J (Zl 26 J J J J J (Zl 27 J J J J J (Zl 28 J J J J J ?_)))))))
   refine Zl 29 J J J J J (Zl 30 J J J J J (Zl 31 J J J J J (Zl 32 J J J J J (Zl 33 J J J J J (Zl 34 J J J J J ?_)))))
   refine Za 35 J J J (Zm J J J (Za 4 J J J (Zf J J (Vx (Ui J ?_ by5 by3)))))
   first | (simp_all; done) | (simp_all; omega) | grind
  ·skip
   refine Zo 11 J J J J J (Zj J Wa J J (Zo 12 J J J J J (Zj J Vt J J (Zo 13 J J J J J (Zn J Yz J J (Zo 14 J J J J J (Yk J J J ?_))))))); intro c14 h14
   refine Za 15 J J J (Zm J J J (Za 16 J J J (Zd J J ?_)))
   rcases Zi h14 with ⟨rfl, g14⟩ | ⟨rfl, g14⟩
   ·skip
    refine Zl 17 J J J J J (Zl 18 J J J J J (Zl 19 J J J J J (Zl 20 J J J J J (Zl 21 J J J J J (Zl 22 J J J J J ?_)))))
    refine Zl 23 J J J J J (Za 24 J J J (Zm J J J (Za 25 J J J (Zd J J (Zl 26 J J J J J (Zl 27 J J J J J (Zl 28 J J J J J ?_)))))))
    refine Zl 29 J J J J J (Zl 30 J J J J J (Zl 31 J J J J J (Zl 32 J J J J J (Zl 33 J J J J J (Zl 34 J J J J J ?_)))))
    refine Za 35 J J J (Zm J J J (Za 4 J J J (Zf J J (Vx (Ui J ?_ by5 by3)))))
    first | (simp_all; done) | (simp_all; omega) | grind
   ·skip
    refine Zo 17 J J J J J (Zj J Wv J J (Zo 18 J J J J J (Zj J Wd J J (Zo 19 J J J J J (Zn J Xb J J (Zo 20 J J J J J (Zj J Wa J J (Zo 21 J J J J J (Zj J Wd J J (Zo 22 J J J J J (Zn J Xb J J ?_)))))))))))
    refine Zo 23 J J J J J (Xv J J J ?_); intro c23 h23
    refine Za 24 J J J (Zm J J J (Za 25 J J J (Zd J J ?_)))
    rcases Zi h23 with ⟨rfl, g23⟩ | ⟨rfl, g23⟩
    ·skip
     refine Zl 26 J J J J J (Zl 27 J J J J J (Zl 28 J J J J J (Zl 29 J J J J J (Zl 30 J J J J J (Zl 31 J J J J J ?_)))))
     refine Zl 32 J J J J J (Zl 33 J J J J J (Zl 34 J J J J J (Za 35 J J J (Zm J J J (Za 4 J J J (Zf J J (Vx ?_)))))))
     refine Ui J ?_ by5 by3
     first | (simp_all; done) | (simp_all; omega) | grind
    ·skip
     refine Zo 26 J J J J J (Zj J Wv J J (Zo 27 J J J J J (Zj J Xq J J (Zo 28 J J J J J (Zn J Wr J J ?_)))))
     refine Zo 29 J J J J J (Yv J Vh J (.seq _ _) (fun n29 => ?_))
     refine Zo 30 J J J J J (Zj J Wa J J (Zo 31 J J J J J (Zj J Xq J J (Zo 32 J J J J J (Zn J Wr J J ?_)))))
     refine Zo 33 J J J J J (Yv J Vh J (.seq _ _) (fun n33 => ?_))
     refine Zo 34 J J J J J (Yk J J J ?_); intro c34 h34
     refine Za 35 J J J (Zm J J J (Za 4 J J J (Zf J J (Vx (Ui J ?_ by5 by3)))))
     first | (simp_all; done) | (simp_all; omega) | grind
 intro c4 h4
 exact Zb (Ya (Yf J J (Ue _) by3 ⟨⟨_, h4, J⟩, J⟩))
set_option maxHeartbeats 4000000 in
set_option maxRecDepth 100000 in
theorem rSamePreds_c (l : List Pr) : BCall Tryz.prog 16 [.seq 5 (Pr.cellss l), .seq 5 (Pr.cellss l)] True := by
 have hl := Pr.cellss_len l
 refine Zv Tryz.func16 J (by kernel_rfl) J (Uk J) ?_
 refine Ye ?_
 refine c_lens (t := 0) J (.seq _ _) (fun hmax => ?_)
 refine Zg (Zc (Za 4 J J J (Zf J J (Vx (Zb (Zg (Zg (Zc (Za 6 J J J (Zd J J ?_))))))))))
 refine Za 7 J J J (Yv J tu_22 J (.seq _ _) (fun n7 => ?_))
 refine Za 8 J J J (Zd J J ?_)
 refine Za 9 J J J (Yv J tu_22 J (.seq _ _) (fun n9 => ?_))
 refine Za 10 J J J (Xp J J J ?_); intro c10 h10
 refine Vx (Zb ?_)
 rcases Zi h10 with ⟨rfl, g10⟩ | ⟨rfl, g10⟩
 ·refine Zq J (Zw (Zb (Zg (Zg (Zc (Za 5 J J J (Zf J J (Vx (Zb (Zz ?_))))))))))
  apply Xl [2, 3, 4, 5, 6, 7, 8, 9, 10, 11, 12, 13, 14, 15, 16, 17, 18, 19, 20, 21, 22, 23, 24, 25, 26] (σ := Nat) (fun zz => match zz with | i => [(5, .val (.int .i64 i))]) (fun zz => match zz with | i => i ≤ l.length) (fun zz => match zz with | i => l.length - i) (0)
  ·repeat' (first | exact Un | apply Ul rfl | apply Um rfl)
  ·exact Nat.zero_le _
  ·exact by4
  rintro i hI
  try dsimp only [List.cons_append, List.nil_append] at hI ⊢
  refine Zg (Zg (Zc (Za 11 J J J (Zd J J (Za 12 J J J (Zd J J ?_))))))
  refine Za 13 J J J (Yv J tu_22 J (.seq _ _) (fun n13 => ?_))
  refine Za 14 J J J (Ys J J J ?_); intro c14 h14
  refine Vx (Zb ?_)
  rcases Zi h14 with ⟨rfl, g14⟩ | ⟨rfl, g14⟩
  ·exact Zq J (Xd (Xf (Xz (Xe (Zb (Zg (Zc (Za 4 J J J (Zf J J (Vx (Zb (Ya (Yf J J (Ue _) by3 ⟨⟨true, by simp, J⟩, J⟩)))))))))))))
  ·refine Zu J (Zw (Zb (Zg (Zz (Zg ?_)))))
   obtain ⟨⟨pc, ⟨ptk, pts, ptn, ptl⟩⟩, hxp⟩ := Yu (l := l) (i := i) by7
   have hcp := Pr.cellss_get hxp
   have hmp := Uq hxp
   refine Vk Wi J (Zk 17 J J (Zd J J ⟨J, J⟩) ?_)
   refine Zk 18 J J (Zd J J ⟨J, J⟩) ?_
   refine Zk 19 J J (Yd J te_22 J (.seq _ _) J J (hcp) ⟨J, J⟩) ?_
   refine Zk 20 J J (Yb (cs' := [_, _, _, _, _]) J ta_27 J J J ⟨J, J⟩) ?_
   refine Zk 21 J J (Zd J J ⟨J, J⟩) ?_
   refine Zk 22 J J (Zd J J ⟨J, J⟩) ?_
   refine Zk 23 J J (Yd J te_22 J (.seq _ _) J J (hcp) ⟨J, J⟩) ?_
   refine Zk 24 J J (Yb (cs' := [_, _, _, _, _]) J ta_27 J J J ⟨J, J⟩) ?_
   refine Xn 25 J J (fun _ q => Yg (xs := [.tmp 20, .tmp 24]) J J (rSame_c (Pr.mk pc ⟨ptk, pts, ptn, ptl⟩) (Pr.mk pc ⟨ptk, pts, ptn, ptl⟩)) by1 q) ?_; intro c25 h25
   refine Xn 26 J J (fun _ q => Wf J J q) ?_; intro c26 h26
   try replace h26 := nott h26 h25
   show AGo _ _ _ _ _ _ _
   refine Zb ?_
   rcases Zi h26 with ⟨rfl, g26⟩ | ⟨rfl, g26⟩
   ·refine Zq J (Zw (Yw (Zb (Zc (Za 15 J J J (Zd J J (Za 16 J J J (Yx J J J (Uo _ (by omega)) ?_))))))))
    refine Za 5 J J J (Zf J J (Vx (Xc ?_)))
    exact ⟨i + 1, (by show i + 1 ≤ l.length; omega), by show l.length - (i + 1) < l.length - i; omega, by4, by3⟩
   ·exact absurd J g26
 ·omega
theorem climbF_end (v : En) (to : ByteArray) (n : Nat) (x : Pf) : climbF v to (n + 1) to x = x := by rw [climbF, if_pos rfl]
theorem climbF_go {v : En} {to c s : ByteArray} (n : Nat) (x : Pf) (h : ¬ c = to) (hs : (supersOf v c)[(upI v to c).toNat]? = some s) : climbF v to (n + 1) c x = climbF v to n s (.mk 2 (upI v to c) c [x]) := by
 rw [climbF, if_neg h, hs]
set_option maxHeartbeats 4000000 in
set_option maxRecDepth 100000 in
theorem up1_c (v : En) (hv : EnC v) (to : ByteArray) (b9 : Nat) : ∀ (n : Nat) (c : ByteArray) (x : Pf), high v c < n → (c = to ∨ to ∈ aboveR v c) →
    KCall Tryz.prog 67 [.val (.string c), .agg x.cells, .cptr [.val (.string to)], .cptr v.cells, .ptr b9 0] [.loc b9 [.clo (.func 67) [] [.cptr [.val (.string to)], .cptr v.cells, .ptr b9 0]]] (.agg (climbF v to n c x).cells)
 | 0, c, x, h, _ => by omega
 | n + 1, c, x, h, hup => by
  have IH := fun s y a b => up1_c v hv to b9 n s y a b
  have HC := tClass_c v c
  have HA := fun s => (tAbove_c v hv.g.b.sup s).pure
  have HH := fun s => ContainsS_c (aboveR v s) to
  obtain ⟨r, hr⟩ : ∃ r, climbF v to (n + 1) c x = r := ⟨_, rfl⟩
  rw [hr]
  by_cases hne : c = to
  ·subst hne
   rw [climbF_end] at hr
   subst hr
   obtain ⟨xk, xn, xc, xl⟩ := x
   obtain ⟨da, cl, ins⟩ := v
   simp only [En.cells, Pf.cells]
   refine Zv Tryz.func67 J (by kernel_rfl) J (Uk J) ?_
   refine Ye (Zg (Zc (Za 6 J J J (Yj (cs' := [_, _, _, _]) J J J J (Za 7 J J J (Zy (cs' := [_, _, _, _]) J tz_30 J J ?_)))))); intro b7
   refine Vx (Zb (Zg (Zg (Zc (Za 12 J J J (Zd J J (Za 13 J J J (Zn J Xb J J (Za 14 J J J (Xv J J J ?_)))))))))); intro c14 h14
   refine Vx (Zb ?_)
   rcases Zi h14 with ⟨rfl, g14⟩ | ⟨rfl, g14⟩
   ·exact absurd J g14
   ·exact Zu J (Zg (Zc (Za 15 J J J (Yb (cs' := [_, _, _, _]) J Vm J J J (Zt J J (Zr (cs' := [_, _, _, _]) (i := 0) J ts_30 J J J J J (Uk J) J (Vx (Zb (Ya (Ym (i := 0) J J J Vm J (Ue _) (Ub _ (Vy _)) ⟨J, J⟩))))))))))
  obtain ⟨s, hu0, hc0, hsu, hed, hs⟩ := up_at (hup.resolve_left hne)
  have hlt := hv.high_lt hed
  rw [climbF_go n x hne hsu] at hr
  have IH := IH s (.mk 2 (upI v to c) c [x]) (by omega) hs
  rw [hr] at IH
  obtain ⟨cx, hcx, hcs, _⟩ := findI_get (fun (c' : Cl) => sameB c'.s c) v.cl 0 hc0
  have hci : classI v c = findI (fun (c' : Cl) => sameB c'.s c) v.cl 0 := rfl
  rw [← hci] at hcx
  have hsl : supersOf v c = cx.su := by unfold supersOf; rw [show v.cl[(classI v c).toNat]? = some cx from hcx]; rfl
  obtain ⟨ui, hui⟩ : ∃ u, upI v to c = u := ⟨_, rfl⟩
  have hud := hui
  unfold upI at hud
  rw [hui] at hu0 hsu IH
  rw [hsl] at hud hsu
  clear hci hr hui hsl hed hlt h hup
  generalize hpp : (fun s => sameB s to || hasB (aboveR v s) to) = pp at hud
  have hpq : ∀ s, pp s = true ↔ (s = to ∨ to ∈ aboveR v s) := fun s => by subst hpp; simp only [Bool.or_eq_true, Ve, hasB_iff]
  clear hpp
  generalize classI v c = ci at *
  rw [show max ci 0 = ci by omega] at HC
  obtain ⟨xk, xn, xc, xl⟩ := x
  obtain ⟨rk, rn, rc, rl⟩ := r
  generalize hav : aboveR v = av at *
  clear hav hv
  obtain ⟨da, cl, ins⟩ := v
  have hcl := Cl.cellss_len cl
  obtain ⟨ys, yv, ysu, yms, yds, yp⟩ := cx
  have hcy := Cl.cellss_get hcx
  simp only [En.cells, Pf.cells, Pf.cellss, Cl.cells, Cl.su, En.cl] at *
  have hls := Xw ysu
  have hcb : ci < cl.length := by have := Vf hcx; omega
  refine Zv Tryz.func67 J (by kernel_rfl) J (Uk J) ?_
  refine Ye (Zg (Zc (Za 6 J J J (Yj (cs' := [_, _, _, _]) J J J J (Za 7 J J J (Zy (cs' := [_, _, _, _]) J tz_30 J J ?_)))))); intro b7
  refine Vx (Zb (Zg (Zg (Zc (Za 12 J J J (Zd J J (Za 13 J J J (Zn J Xb J J (Za 14 J J J (Xv J J J ?_)))))))))); intro c14 h14
  refine Vx (Zb ?_)
  rcases Zi h14 with ⟨rfl, g14⟩ | ⟨rfl, g14⟩
  ·refine Zq J (Zw (Zb (Zg (Zc (Za 17 J J J (Yb (cs' := [_, _, _]) J Wb J J J (Za 18 J J J (Zd J J (Za 19 J J J (Yn (xs := [.tmp 17, .tmp 18]) J J (HC) by1 ?_))))))))))
   refine Za 16 J J J (Zd J J (Za 20 J J J (Xa J J J (Za 21 J J J (Xa J J J (Za 8 J J J (Zf J J (Za 9 J J J (Zf J J (Vx (Zb (Zg (Zg (Zc ?_))))))))))))))
   refine Za 22 J J J (Zj J Wl J J (Za 23 J J J (Zn J Vo J J (Za 24 J J J (Zd J J ?_)))))
   refine Za 25 J J J (Yd (i := ci.toNat) J te_35 J (.seq _ _) J (by first | rfl | omega) (hcy) ?_)
   refine Za 26 J J J (Zj J tf_77_2 J J (Za 27 J J J (Zn J ta_68 J J ?_)))
   refine Za 28 J J J (Yv J tu_68 J (.seq _ _) (fun n28 => ?_))
   refine Za 29 J J J (Zd J J (Vx (Zb (Zz ?_))))
   refine c_lens (t := 27) J (.seq _ _) (fun hmax => ?_)
   apply Xl [1, 5, 8, 9, 10, 11, 12, 13, 14, 15, 16, 17, 18, 19, 20, 21, 22, 23, 24, 25, 26, 29, 30, 31, 32, 33, 34, 35, 36, 37, 38, 39, 40, 41, 42, 43, 44, 45, 46, 47, 48, 49, 50, 51, 52] (σ := Nat) (fun zz => match zz with | i => [(29, .val (.int .i64 i))]) (fun zz => match zz with | i => i ≤ ysu.length ∧ findI pp (ysu.drop i) i = ui) (fun zz => match zz with | i => ysu.length - i) (0)
   ·repeat' (first | exact Un | apply Ul rfl | apply Um rfl)
   ·exact ⟨Nat.zero_le _, hud⟩
   ·exact by4
   rintro i hI
   try dsimp only [List.cons_append, List.nil_append] at hI ⊢
   obtain ⟨hi, hf⟩ := hI
   refine Zg (Zc (Za 30 J J J (Ys J J J ?_))); intro c30 h30
   refine Vx (Zb (Zg ?_))
   rcases Zi h30 with ⟨rfl, g30⟩ | ⟨rfl, g30⟩
   ·refine Zq J (Xd (Xf (Xz (Xe (Zb (Zg ?_))))))
    rw [Ur (by omega), findI] at hf
    exact absurd hu0 (by omega)
   ·refine Zu J (Zw (Zb (Zg (Zz (Zg ?_)))))
    obtain ⟨z, hxz⟩ := Yu (l := ysu) (i := i) by7
    have hcz := strs_get hxz
    have hmz := Uq hxz
    rw [Xs hxz, findI] at hf
    have HAz := HA z
    have HHz := HH z
    refine Zc (Za 31 J J J (Zd J J (Za 32 J J J (Yd J te_68 J (.seq _ _) J J (hcz) (Za 33 J J J (Zn J Xb J J (Za 10 J J J (Zf J J (Za 11 J J J (Zf J J ?_))))))))))
    refine Vx (Zb (Zg (Wk 43 (z = to ∨ to ∈ av z) Wi J ?_ _ _ J ?_)))
    ·skip
     refine Zk 34 J J (Zd J J ⟨J, J⟩) ?_
     refine Zk 35 J J (Zn J Xb J J ⟨J, J⟩) ?_
     refine Xn 36 J J (fun _ q => Xv J J J q) ?_; intro c36 h36
     refine Zk 37 J J (Zd J J ⟨J, J⟩) ?_
     rcases Zi h36 with ⟨rfl, g36⟩ | ⟨rfl, g36⟩
     ·skip
      refine Zs 38 J J J J (Yb (cs' := [_, _, _]) J Wb J J J ⟨J, J⟩) ?_
      refine Zs 39 J J J J (Zd J J ⟨J, J⟩) ?_
      refine Zs 40 J J J J (Yn (xs := [.tmp 38, .tmp 39]) J J (HAz) by1 ⟨J, J⟩) ?_
      refine Zs 41 J J J J (Zn J Xb J J ⟨J, J⟩) ?_
      refine Yy 42 J J J J (fun _ q => Yg (xs := [.tmp 40, .tmp 41]) J J (HHz) by1 q) ?_; intro c42 h42
      refine Zk 43 J J (Zm J J J ⟨J, J⟩) ?_
      show BoolQ _ _ _ _ _ _
      refine Ui J ?_ by5 by3
      clear HC HA HH HAz HHz IH; first | (simp_all; done) | grind
     ·skip
      refine Ze 38 J J J J (Ze 39 J J J J (Ze 40 J J J J (Ze 41 J J J J (Ze 42 J J J J (Zk 43 J J (Zm J J J ⟨J, J⟩) ?_)))))
      show BoolQ _ _ _ _ _ _
      refine Ui J ?_ by5 by3
      clear HC HA HH HAz HHz IH; first | (simp_all; done) | grind
    intro c43 h43
    refine Zb ?_
    rcases Zi h43 with ⟨rfl, g43⟩ | ⟨rfl, g43⟩
    ·refine Zq J (Zw (Yw (Zb (Zc (Za 52 J J J (Yx J J J (Uo _ (by omega)) ?_))))))
     refine Za 29 J J J (Zd J J (Vx (Xc ?_)))
     rw [if_neg (fun q => g43 ((hpq z).1 q))] at hf; exact ⟨i + 1, ⟨by show i + 1 ≤ ysu.length; omega, hf⟩, by show ysu.length - (i + 1) < ysu.length - i; omega, by4, by3⟩
    ·refine Zu J (Zg ?_)
     rw [if_pos ((hpq z).2 g43)] at hf
     subst hf
     rw [show ((i : Int)).toNat = i by omega, hxz] at hsu
     cases hsu
     refine Zc (Za 44 J J J (Zp (i := 1) J ta_124 J J J (Za 45 J J J (Zd J J (Za 46 J J J (Zd J J (Za 47 J J J (Zd J J (Za 48 J J J (Yb (cs' := [_, _, _, _]) J Vm J J J ?_))))))))))
     refine Za 49 J J J (Yh (xs := [.tmp 48]) el_28 J J J J J J (Uk J) (Za 50 J J J (Yo (ns := [0, 1, 2, 3]) (xs := [.const (.int .i64 2), .tmp 46, .tmp 47, .tmp 49]) J tz_30 J tfl_30 J J J J (Za 51 J J J (op_callvat [1] (xs := [.tmp 45, .tmp 50])  J J J J IH by1 ?_)))))
     rintro v51 M51 ⟨rfl, rfl⟩
     exact Zt J J (Zr (cs' := [_, _, _, _]) (i := 1) J ts_30 J J J J J (Uk J) J (Vx (Zb (Ya (Ym (i := 1) J J J Vm J (Ue _) by3 ⟨J, J⟩)))))
  ·exact absurd g14 hne
set_option maxHeartbeats 4000000 in
set_option maxRecDepth 100000 in
theorem up_c (v : En) (hv : EnC v) (c to : ByteArray) (x : Pf) (h : c = to ∨ to ∈ aboveR v c) : PCall Tryz.prog 33 [.agg v.cells, .val (.string c), .val (.string to), .agg x.cells] (.agg (upF v c to x).cells) := by
 have H := fun b9 => up1_c v hv to b9 (high v c + 1) c x (by omega) h
 have he : climbF v to (high v c + 1) c x = upF v c to x := rfl
 rw [he] at H
 generalize upF v c to x = r at *
 obtain ⟨xk, xn, xc, xl⟩ := x
 obtain ⟨rk, rn, rc, rl⟩ := r
 clear he hv h
 obtain ⟨da, cl, ins⟩ := v
 simp only [En.cells, Pf.cells] at H ⊢
 refine Zv Tryz.func33 J (by kernel_rfl) J (Uk J) ?_
 refine Ye (Zg (Zc (Za 4 J J J (Yj (cs' := [_, _, _]) J J J J (Za 6 J J J (Yj (cs' := [_]) J J J J (Za 7 J J J (Yj (cs' := [_, _, _, _]) J J J J (Za 8 J J J (Zy (cs' := [_, _, _, _]) J tz_30 J J ?_)))))))))); intro b8
 refine Vx (Zb (Zg (Zc (Za 9 J J J (Zy (cs' := [_]) J tz_124 J J ?_))))); intro b9
 refine Vx (Zb (Zg (Zc (Za 10 J J J (op_makeFunc (fs := []) (cs := [.tmp 6, .tmp 4, .tmp 9]) J J J (Zt J J (Zr (cs' := [_]) (i := 0) J ts_124 J J J J J (Uk J) J (Vx (Zb (Zg (Zc (Za 11 J J J (Zp (i := 0) J ta_124 J J J (Za 12 J J J (Zd J J ?_)))))))))))))))
 refine Za 13 J J J (Yb (cs' := [_, _, _, _]) J Vm J J J (Za 14 J J J (op_callvat [0] (xs := [.tmp 12, .tmp 13])  J J J J (H b9) by1 ?_)))
 rintro v14 M14 ⟨rfl, rfl⟩
 exact Zt J J (Zr (cs' := [_, _, _, _]) (i := 1) J ts_30 J J J J J (Uk J) J (Vx (Zb (Ya (Ym (i := 1) J J J Vm J (Ue _) (Vz _) ⟨J, J⟩)))))
theorem supP_hit {v : En} {gs : List Pr} {p g : Pr} {i : Nat} (hi : supI v gs p = i) (hg : gs[i]? = some g) : supP v gs p = (upF v g.c p.c (.mk 1 i kE []), true) := by
 unfold supP
 rw [hi, show ((i : Int)).toNat = i by omega, hg]
 simp only []
 rw [if_neg (by omega)]
theorem supP_no {v : En} {gs : List Pr} {p : Pr} (hi : supI v gs p < 0) : supP v gs p = (pf0, false) := by
 unfold supP
 cases gs[(supI v gs p).toNat]? with
 | none => rfl
 | some g => simp only []; rw [if_pos hi]
theorem needsR_len {v : En} (hv : EnB v) (i : Int) (t : Ty) : (needsR v i t).length ≤ 100000 := by
 unfold needsR
 cases hx : v.ins[i.toNat]? with
 | none => simp
 | some x =>
  simp only []
  have := (hv.inss x (Uq hx)).1
  split
  ·simp
  ·rw [List.length_map]; omega
set_option maxHeartbeats 4000000 in
set_option maxRecDepth 100000 in
theorem Prove1_c (x p : Pr) : BCall Tryz.prog 27 [.agg x.cells, .cptr p.cells] (prB x p = true) := by
 have H := same_c x p
 obtain ⟨xc, ⟨xk, xs, xn, xl⟩⟩ := x
 obtain ⟨pc, ⟨pk, ps, pn, pl⟩⟩ := p
 rw [show (prB (Pr.mk xc ⟨xk, xs, xn, xl⟩) (Pr.mk pc ⟨pk, ps, pn, pl⟩) = true) = ((Pr.mk xc ⟨xk, xs, xn, xl⟩) = (Pr.mk pc ⟨pk, ps, pn, pl⟩)) from propext prB_iff]
 simp only [Pr.cells, Ty.cells] at H ⊢
 refine Zv Tryz.func27 J (by kernel_rfl) J (Uk J) ?_
 refine Ye (Zg (Zc (Za 2 J J J (Yj (cs' := [_, _, _, _, _]) J J J J (Za 3 J J J (Zf J J (Vx (Zb (Zg (Zc (Za 4 J J J (Yb (cs' := [_, _, _, _, _]) J ta_27 J J J ?_))))))))))))
 refine Za 5 J J J (Yb (cs' := [_, _, _, _, _]) J ta_27 J J J (Za 6 J J J (Yg (xs := [.tmp 4, .tmp 5]) J J (H) by1 ?_))); intro c6 h6
 exact Za 3 J J J (Zf J J (Vx (Zb (Ya (Yf J J (Ue _) by3 ⟨⟨_, h6, J⟩, J⟩)))))
set_option maxHeartbeats 4000000 in
set_option maxRecDepth 100000 in
theorem Prove_c (v : En) (hv : EnC v) (gs : List Pr) : ∀ (n : Nat) (p : Pr), p.t.size < n → p.t.size ≤ 1000000 → PCall Tryz.prog 11 [.agg v.cells, .seq 5 (Pr.cellss gs), .agg p.cells] (.tup [.agg (proveF v gs n p).1.cells, .val (.bool (proveF v gs n p).2)])
 | 0, p, h, _ => by omega
 | n + 1, p, h, hz => by
  have IH := fun q a b => Prove_c v hv gs n q a b
  have HG : PCall Tryz.prog _ _ _ := IxF_Pr (fun g => prB g p) 27 [] [.cptr p.cells] gs (fun x _ => Prove1_c x p)
  have HF := fits_c v p
  have HN := Needs_c v hv.g (instI v p.c p.t.name) p.t hz
  have HS := fun (g : Pr) => tSameType_c g.t p.t
  have HA := fun (g : Pr) => (tAbove_c v hv.g.b.sup g.c).pure
  have HH := fun (g : Pr) => ContainsS_c (aboveR v g.c) p.c
  have HU0 := fun (g : Pr) (i : Nat) h => up_c v hv g.c p.c (.mk 1 i kE []) (.inr h)
  obtain ⟨r, hr⟩ : ∃ r, proveF v gs (n + 1) p = r := ⟨_, rfl⟩
  rw [hr]
  rw [proveF] at hr
  have hgi : givI gs p = findI (fun g => prB g p) gs 0 := rfl
  rw [← hgi] at HG
  generalize givI gs p = gi at *
  clear hgi
  have hfi : fitsR v p = true → 0 ≤ instI v p.c p.t.name := fun q => by unfold fitsR at q; exact (of_decide_eq_true q).1
  have hnz := fun q (hq : q ∈ needsR v (instI v p.c p.t.name) p.t) => hv.needs_size hq
  have IH : ∀ q ∈ needsR v (instI v p.c p.t.name) p.t, PCall Tryz.prog _ _ _ := fun q hq => IH q (by have := hnz q hq; omega) (by have := hnz q hq; omega)
  clear hnz
  have hlb := needsR_len hv.g.b (instI v p.c p.t.name) p.t
  generalize proveF v gs n = F at *
  generalize needsR v (instI v p.c p.t.name) p.t = l at *
  generalize fitsR v p = c30 at *
  generalize instI v p.c p.t.name = ii at *
  obtain ⟨si, hsi⟩ : ∃ s, supI v gs p = s := ⟨_, rfl⟩
  have hsh0 := fun (i : Nat) g (e : si = i) => supP_hit (v := v) (gs := gs) (p := p) (g := g) (i := i) (hsi.trans e)
  have hsn : si < 0 → _ := fun e => supP_no (v := v) (gs := gs) (p := p) (by omega)
  unfold supI at hsi
  generalize hpp : (fun (g : Pr) => g.t.eqb p.t && hasB (aboveR v g.c) p.c) = pp at hsi
  have hpq : ∀ g, pp g = true ↔ (g.t = p.t ∧ p.c ∈ aboveR v g.c) := fun s => by subst hpp; simp only [Bool.and_eq_true, Ty.eqb_iff, hasB_iff]
  clear hpp
  generalize supP v gs p = sp at *
  have hUF : ∃ U : Pr → Nat → Pf, U = fun (g : Pr) (i : Nat) => upF v g.c p.c (.mk 1 i kE []) := ⟨_, rfl⟩
  obtain ⟨U, hU⟩ := hUF
  have HU : ∀ (g : Pr) (i : Nat), p.c ∈ aboveR v g.c → PCall Tryz.prog 33 [.agg v.cells, .val (.string g.c), .val (.string p.c), .agg (Pf.mk 1 i kE []).cells] (.agg (U g i).cells) := fun g i h => by rw [hU]; exact HU0 g i h
  have hsh : ∀ (i : Nat) g, si = i → gs[i]? = some g → sp = (U g i, true) := fun i g e k => by rw [hU]; exact hsh0 i g e k
  clear hU hv hz h hsh0 HU0
  generalize aboveR v = av at *
  obtain ⟨pc, ⟨pk, ps, pn, pl⟩⟩ := p
  obtain ⟨da, cl, ins⟩ := v
  obtain ⟨⟨rk, rn, rc, rl⟩, rb⟩ := r
  have hgl := Pr.cellss_len gs
  have hll := Pr.cellss_len l
  simp only [En.cells, Pf.cells, Pf.cellss, Pr.cells, Ty.cells, Pr.c, Pr.t] at *
  refine Zv Tryz.func11 J (by kernel_rfl) J (Uk J) ?_
  refine Ye (Zg (Zc (Za 3 J J J (Yj (cs' := [_, _, _]) J J J J (Za 5 J J J (Yj (cs' := [_, _, _, _, _]) J J J J (Za 6 J J J (Zy (cs' := [_, _, _, _]) J tz_30 J J ?_)))))))); intro b6
  refine Za 7 J J J (Zf J J (Vx (Zb (Zg (Zg (Zc (Za 18 J J J (Zd J J (Za 19 J J J (op_makeFunc (fs := []) (cs := [.tmp 5]) J J J (Za 20 J J J (Yn (xs := [.tmp 18, .tmp 19]) J J (HG) by1 ?_))))))))))))
  refine Za 8 J J J (Zf J J (Vx (Zb (Zg (Zc (Za 21 J J J (Zd J J (Za 22 J J J (Xx J J J ?_))))))))); intro c22 h22
  refine Vx (Zb ?_)
  rcases Zi h22 with ⟨rfl, g22⟩ | ⟨rfl, g22⟩
  ·refine Zq J (Zw (Zb (Zg (Zg ?_))))
   rw [if_neg g22] at hr
   refine Zc (Za 26 J J J (Yb (cs' := [_, _, _]) J Wb J J J (Za 27 J J J (Yb (cs' := [_, _, _, _, _]) J ta_27 J J J (Za 28 J J J (Yn (xs := [.tmp 26, .tmp 27]) J J (HF) by1 ?_))))))
   refine Za 25 J J J (Zd J J (Za 29 J J J (Xa J J J (Za 30 J J J (Xa J J J (Za 9 J J J (Zf J J (Za 10 J J J (Zf J J (Vx (Zb (Zg (Zc ?_)))))))))))))
   refine Za 31 J J J (Zd J J (Vx (Zb ?_)))
   rcases c30 with _ | _
   ·refine Zq J (Zw (Zb (Zg (Zg (Zc (Za 64 J J J (Zd J J ?_)))))))
    refine Za 65 J J J (Yv J tu_22 J (.seq _ _) (fun n65 => ?_))
    refine Za 66 J J J (Zd J J (Vx (Zb (Zz ?_))))
    have hr : sp = (Pf.mk rk rn rc rl, rb) := by
     first
      | (rw [List.take_of_length_le (by omega)] at hb; rw [if_neg (fun q => by rw [← hb] at q; exact absurd q.2 (by simp))] at hr; exact hr)
      | (rw [if_neg (fun q => absurd q.1 (by simp))] at hr; exact hr)
    apply Xl [0, 1, 2, 4, 7, 8, 9, 10, 11, 12, 13, 14, 15, 16, 17, 18, 19, 20, 21, 22, 23, 24, 25, 26, 27, 28, 29, 31, 32, 33, 34, 35, 36, 37, 38, 39, 40, 41, 42, 43, 44, 45, 46, 47, 48, 49, 50, 51, 52, 53, 54, 55, 56, 57, 58, 59, 60, 61, 62, 63, 66, 67, 68, 69, 70, 71, 72, 73, 74, 75, 76, 77, 78, 79, 80, 81, 82, 83, 84, 85, 86, 87, 88, 89, 90, 91, 92, 93] (σ := Nat) (fun zz => match zz with | i => [(66, .val (.int .i64 i))]) (fun zz => match zz with | i => i ≤ gs.length ∧ findI pp (gs.drop i) i = si) (fun zz => match zz with | i => gs.length - i) (0)
    ·repeat' (first | exact Un | apply Ul rfl | apply Um rfl)
    ·exact ⟨Nat.zero_le _, hsi⟩
    ·exact by4
    rintro i hI
    try dsimp only [List.cons_append, List.nil_append] at hI ⊢
    obtain ⟨hi, hf⟩ := hI
    refine Zg (Zc (Za 67 J J J (Ys J J J ?_))); intro c67 h67
    refine Vx (Zb (Zg ?_))
    rcases Zi h67 with ⟨rfl, g67⟩ | ⟨rfl, g67⟩
    ·refine Zq J (Xd (Xf (Xz (Xe (Zb (Zg (Zc (Za 94 J J J (Yo (ns := []) (xs := []) J tz_30 J tfl_30 J J J J (Zt J J (Zr (cs' := [_, _, _, _]) (i := 0) J ts_30 J J J J J (Uk J) J (Za 7 J J J (Zf J J (Vx (Zb (Ya ?_))))))))))))))))
     rw [Ur (by omega), findI] at hf
     rw [hsn (by omega)] at hr
     cases hr
     first
      | exact Vc (i := 0) rfl rfl rfl rfl Vm rfl by0 (Vz _) ⟨rfl, rfl⟩
      | exact Vc (i := 1) rfl rfl rfl rfl Vm rfl by0 (Vz _) ⟨rfl, rfl⟩
      | exact Vc (i := 2) rfl rfl rfl rfl Vm rfl by0 (Vz _) ⟨rfl, rfl⟩
      | exact Vc (i := 3) rfl rfl rfl rfl Vm rfl by0 (Vz _) ⟨rfl, rfl⟩
    ·refine Zu J (Zw (Zb (Zg (Zz (Zg ?_)))))
     obtain ⟨⟨gc, ⟨gtk, gts, gtn, gtl⟩⟩, hxg⟩ := Yu (l := gs) (i := i) by7
     have hcg := Pr.cellss_get hxg
     have hmg := Uq hxg
     rw [Xs hxg, findI] at hf
     have HSg := HS (Pr.mk gc ⟨gtk, gts, gtn, gtl⟩)
     have HAg := HA (Pr.mk gc ⟨gtk, gts, gtn, gtl⟩)
     have HHg := HH (Pr.mk gc ⟨gtk, gts, gtn, gtl⟩)
     simp only [Ty.cells] at HSg HAg HHg
     refine Zc (Za 68 J J J (Zd J J (Za 69 J J J (Yd J te_22 J (.seq _ _) J J (hcg) (Za 70 J J J (Yb (cs' := [_, _, _, _, _]) J ta_27 J J J (Za 17 J J J (Zy (cs' := [_, _, _, _, _]) J tz_27 J J ?_)))))))); intro b17
     refine Za 16 J J J (Zf J J (Zt J J (Zr (cs' := [_, _, _, _, _]) (i := 0) J ts_27 J J J J J (Uk J) J (Vx (Zb (Zg (Wk 84 (Ty.mk gtk gts gtn gtl = Ty.mk pk ps pn pl ∧ pc ∈ av gc) Wi J ?_ _ _ J ?_)))))))
     ·skip
      refine Zk 71 J J (Zh J Wa J ⟨J, J⟩) ?_
      refine Zk 72 J J (Zx (cs' := [_, _, _, _]) (i := 0) J Xt J J J J ⟨J, J⟩) ?_
      refine Zk 73 J J (Zj J Wa J J ⟨J, J⟩) ?_
      refine Zk 74 J J (Yb (cs' := [_, _, _, _]) J Xt J J J ⟨J, J⟩) ?_
      refine Xn 75 J J (fun _ q => Yg (xs := [.tmp 72, .tmp 74]) J J (HSg) by1 q) ?_; intro c75 h75
      refine Zk 76 J J (Zd J J ⟨J, J⟩) ?_
      rcases Zi h75 with ⟨rfl, g75⟩ | ⟨rfl, g75⟩
      ·skip
       refine Ze 77 J J J J (Ze 78 J J J J (Ze 79 J J J J (Ze 80 J J J J (Ze 81 J J J J (Ze 82 J J J J ?_)))))
       refine Ze 83 J J J J (Zk 84 J J (Zm J J J ⟨J, J⟩) ?_)
       show BoolQ _ _ _ _ _ _
       refine Ui J ?_ by5 by3
       clear HSg HAg HHg HS HA HH HU HG HF HN IH; first | (simp_all; done) | grind
      ·skip
       refine Zs 77 J J J J (Yb (cs' := [_, _, _]) J Wb J J J ⟨J, J⟩) ?_
       refine Zs 78 J J J J (Zh J Wu J ⟨J, J⟩) ?_
       refine Zs 79 J J J J (Zp (i := 0) J Xb J J J ⟨J, J⟩) ?_
       refine Zs 80 J J J J (Yn (xs := [.tmp 77, .tmp 79]) J J (HAg) by1 ⟨J, J⟩) ?_
       refine Zs 81 J J J J (Zj J Wu J J ⟨J, J⟩) ?_
       refine Zs 82 J J J J (Zn J Xb J J ⟨J, J⟩) ?_
       refine Yy 83 J J J J (fun _ q => Yg (xs := [.tmp 80, .tmp 82]) J J (HHg) by1 q) ?_; intro c83 h83
       refine Zk 84 J J (Zm J J J ⟨J, J⟩) ?_
       show BoolQ _ _ _ _ _ _
       refine Ui J ?_ by5 by3
       clear HSg HAg HHg HS HA HH HU HG HF HN IH; first | (simp_all; done) | grind
     intro c84 h84
     refine Zb ?_
     rcases Zi h84 with ⟨rfl, g84⟩ | ⟨rfl, g84⟩
     ·refine Zq J (Zw (Yw (Zb (Zc (Za 93 J J J (Yx J J J (Uo _ (by omega)) ?_))))))
      refine Za 66 J J J (Zd J J (Vx (Xc ?_)))
      rw [if_neg (fun q => g84 ((hpq _).1 q))] at hf; exact ⟨i + 1, ⟨by show i + 1 ≤ gs.length; omega, hf⟩, by show gs.length - (i + 1) < gs.length - i; omega, by4, by3⟩
     ·refine Zu J (Zg ?_)
      rw [if_pos ((hpq _).2 g84)] at hf
      have hsp := hsh i _ hf.symm hxg
      rw [hsp] at hr
      have HUg := HU (Pr.mk gc ⟨gtk, gts, gtn, gtl⟩) i g84.2
      obtain ⟨h1r, h2r⟩ := Prod.mk.inj hr
      rw [h1r] at HUg
      simp only [Pf.cells] at HUg
      refine Zc (Za 85 J J J (Yb (cs' := [_, _, _]) J Wb J J J (Za 86 J J J (Zh J Wu J (Za 87 J J J (Zp (i := 0) J Xb J J J (Za 88 J J J (Zj J Wu J J (Za 89 J J J (Zn J Xb J J ?_))))))))))
      refine Za 90 J J J (Zd J J (Za 91 J J J (Yo (ns := [0, 1]) (xs := [.const (.int .i64 1), .tmp 90]) J tz_30 J tfl_30 J J J J (Za 92 J J J (Yn (xs := [.tmp 85, .tmp 87, .tmp 89, .tmp 91]) J J (HUg) by1 ?_)))))
      refine Zt J J (Zr (cs' := [_, _, _, _]) (i := 1) J ts_30 J J J J J (Uk J) J (Za 7 J J J (Zf J J (Vx (Zb (Ya ?_))))))
      subst h2r
      first
       | exact Vc (i := 0) rfl rfl rfl rfl Vm rfl by0 (Vz _) ⟨rfl, rfl⟩
       | exact Vc (i := 1) rfl rfl rfl rfl Vm rfl by0 (Vz _) ⟨rfl, rfl⟩
       | exact Vc (i := 2) rfl rfl rfl rfl Vm rfl by0 (Vz _) ⟨rfl, rfl⟩
       | exact Vc (i := 3) rfl rfl rfl rfl Vm rfl by0 (Vz _) ⟨rfl, rfl⟩
   ·refine Zu J (Zg ?_)
    rw [show max ii 0 = ii by have := hfi rfl; omega]
    refine Zc (Za 32 J J J (Zd J J (Za 33 J J J (Yo (ns := [0, 1]) (xs := [.const (.int .i64 3), .tmp 32]) J tz_30 J tfl_30 J J J J (Za 11 J J J (Zy (cs' := [_, _, _, _]) J tz_30 J J ?_)))))); intro b11
    refine Zt J J (Zr (cs' := [_, _, _, _]) (i := 0) J ts_30 J J J J J (Uk J) J (Vx (Zb (Zg (Zg (Zc (Za 34 J J J (Yb (cs' := [_, _, _]) J Wb J J J (Za 35 J J J (Zd J J (Za 36 J J J (Zj J Wa J J (Za 37 J J J (Yb (cs' := [_, _, _, _]) J Xt J J J ?_))))))))))))))
    refine Za 38 J J J (Yn (xs := [.tmp 34, .tmp 35, .tmp 37]) J J (HN) by1 ?_)
    refine Za 39 J J J (Yv J tu_22 J (.seq _ _) (fun n39 => ?_))
    refine Za 40 J J J (Zd J J (Vx (Zb (Zz ?_))))
    refine c_lens (t := 38) J (.seq _ _) (fun hmax => ?_)
    refine Wg 30 4 ?_
    apply Wm [0, 2, 4, 8, 9, 10, 12, 13, 14, 15, 18, 19, 20, 21, 22, 23, 24, 25, 26, 27, 28, 29, 31, 32, 33, 34, 35, 36, 37, 40, 41, 42, 43, 44, 45, 46, 47, 48, 49, 50, 51, 52, 53, 54, 55, 56, 57, 58, 59, 60, 61] (σ := Nat × Bool × List Pf × Value) (fun zz => match zz with | (k, c10, acc, u) => [(40, .val (.int .i64 k)), (10, .val (.bool c10))]) (fun zz => match zz with | (k, c10, acc, u) => [.loc b11 [.val (.int .i64 3), .val (.int .i64 ii), .val (.string kE), .own u 4 (Pf.cellss acc)], .loc b6 [.val (.int .i64 0), .val (.int .i64 0), .val (.string kE), .val (.slice none 0 0)], .own 30 4 u]) (fun zz => match zz with | (k, c10, acc, u) => k ≤ l.length ∧ acc = (l.take k).map (fun q => (F q).1) ∧ c10 = (l.take k).all (fun q => (F q).2)) (fun zz => match zz with | (k, c10, acc, u) => l.length - k) ((0, true, [], .slice none 0 0))
    ·repeat' (first | exact Un | apply Ul rfl | apply Um rfl)
    ·exact ⟨Nat.zero_le _, J, J⟩
    ·exact by4
    ·exact (Uc _ (Ug (Ue _) (Ug (Ue _) (Ug (Ue _) (Ug (Le.nilOwn 4) (Uf _))))) (Ud J))
    rintro ⟨k, c10, acc, u⟩ hI
    try dsimp only [List.cons_append, List.nil_append] at hI ⊢
    obtain ⟨h1, ha, hb⟩ := hI
    have hle : (Pf.cellss acc).length ≤ 10000000000 := by rw [Pf.cellss_len, ha, List.length_map, List.length_take]; omega
    refine Zg (Zc (Za 41 J J J (Ys J J J ?_))); intro c41 h41
    refine Vx (Zb (Zg ?_))
    rcases Zi h41 with ⟨rfl, g41⟩ | ⟨rfl, g41⟩
    ·refine Zq J (Xd (Xf (Xz (Xe (Zb (Zg (Zc (Za 62 J J J (Zd J J (Vx (Zb ?_)))))))))))
     rcases c10 with _ | _
     ·refine Zq J (Zw (Zb (Zg (Zg (Zc (Za 64 J J J (Zd J J ?_)))))))
      refine Za 65 J J J (Yv J tu_22 J (.seq _ _) (fun n65 => ?_))
      refine Za 66 J J J (Zd J J (Vx (Zb (Zz ?_))))
      have hr : sp = (Pf.mk rk rn rc rl, rb) := by
       first
        | (rw [List.take_of_length_le (by omega)] at hb; rw [if_neg (fun q => by rw [← hb] at q; exact absurd q.2 (by simp))] at hr; exact hr)
        | (rw [if_neg (fun q => absurd q.1 (by simp))] at hr; exact hr)
      apply Xl [0, 1, 2, 4, 7, 8, 9, 10, 11, 12, 13, 14, 15, 16, 17, 18, 19, 20, 21, 22, 23, 24, 25, 26, 27, 28, 29, 31, 32, 33, 34, 35, 36, 37, 38, 39, 40, 41, 42, 43, 44, 45, 46, 47, 48, 49, 50, 51, 52, 53, 54, 55, 56, 57, 58, 59, 60, 61, 62, 63, 66, 67, 68, 69, 70, 71, 72, 73, 74, 75, 76, 77, 78, 79, 80, 81, 82, 83, 84, 85, 86, 87, 88, 89, 90, 91, 92, 93] (σ := Nat) (fun zz => match zz with | i => [(66, .val (.int .i64 i))]) (fun zz => match zz with | i => i ≤ gs.length ∧ findI pp (gs.drop i) i = si) (fun zz => match zz with | i => gs.length - i) (0)
      ·repeat' (first | exact Un | apply Ul rfl | apply Um rfl)
      ·exact ⟨Nat.zero_le _, hsi⟩
      ·exact by4
      rintro i hI
      try dsimp only [List.cons_append, List.nil_append] at hI ⊢
      obtain ⟨hi, hf⟩ := hI
      refine Zg (Zc (Za 67 J J J (Ys J J J ?_))); intro c67 h67
      refine Vx (Zb (Zg ?_))
      rcases Zi h67 with ⟨rfl, g67⟩ | ⟨rfl, g67⟩
      ·refine Zq J (Xd (Xf (Xz (Xe (Zb (Zg (Zc (Za 94 J J J (Yo (ns := []) (xs := []) J tz_30 J tfl_30 J J J J (Zt J J (Zr (cs' := [_, _, _, _]) (i := 1) J ts_30 J J J J J (Uk J) J (Za 7 J J J (Zf J J (Vx (Zb (Ya ?_))))))))))))))))
       rw [Ur (by omega), findI] at hf
       rw [hsn (by omega)] at hr
       cases hr
       first
        | exact Vc (i := 0) rfl rfl rfl rfl Vm rfl by0 (Vz _) ⟨rfl, rfl⟩
        | exact Vc (i := 1) rfl rfl rfl rfl Vm rfl by0 (Vz _) ⟨rfl, rfl⟩
        | exact Vc (i := 2) rfl rfl rfl rfl Vm rfl by0 (Vz _) ⟨rfl, rfl⟩
        | exact Vc (i := 3) rfl rfl rfl rfl Vm rfl by0 (Vz _) ⟨rfl, rfl⟩
      ·refine Zu J (Zw (Zb (Zg (Zz (Zg ?_)))))
       obtain ⟨⟨gc, ⟨gtk, gts, gtn, gtl⟩⟩, hxg⟩ := Yu (l := gs) (i := i) by7
       have hcg := Pr.cellss_get hxg
       have hmg := Uq hxg
       rw [Xs hxg, findI] at hf
       have HSg := HS (Pr.mk gc ⟨gtk, gts, gtn, gtl⟩)
       have HAg := HA (Pr.mk gc ⟨gtk, gts, gtn, gtl⟩)
       have HHg := HH (Pr.mk gc ⟨gtk, gts, gtn, gtl⟩)
       simp only [Ty.cells] at HSg HAg HHg
       refine Zc (Za 68 J J J (Zd J J (Za 69 J J J (Yd J te_22 J (.seq _ _) J J (hcg) (Za 70 J J J (Yb (cs' := [_, _, _, _, _]) J ta_27 J J J (Za 17 J J J (Zy (cs' := [_, _, _, _, _]) J tz_27 J J ?_)))))))); intro b17
       refine Za 16 J J J (Zf J J (Zt J J (Zr (cs' := [_, _, _, _, _]) (i := 0) J ts_27 J J J J J (Uk J) J (Vx (Zb (Zg (Wk 84 (Ty.mk gtk gts gtn gtl = Ty.mk pk ps pn pl ∧ pc ∈ av gc) Wi J ?_ _ _ J ?_)))))))
       ·skip
        refine Zk 71 J J (Zh J Wa J ⟨J, J⟩) ?_
        refine Zk 72 J J (Zx (cs' := [_, _, _, _]) (i := 0) J Xt J J J J ⟨J, J⟩) ?_
        refine Zk 73 J J (Zj J Wa J J ⟨J, J⟩) ?_
        refine Zk 74 J J (Yb (cs' := [_, _, _, _]) J Xt J J J ⟨J, J⟩) ?_
        refine Xn 75 J J (fun _ q => Yg (xs := [.tmp 72, .tmp 74]) J J (HSg) by1 q) ?_; intro c75 h75
        refine Zk 76 J J (Zd J J ⟨J, J⟩) ?_
        rcases Zi h75 with ⟨rfl, g75⟩ | ⟨rfl, g75⟩
        ·skip
         refine Ze 77 J J J J (Ze 78 J J J J (Ze 79 J J J J (Ze 80 J J J J (Ze 81 J J J J (Ze 82 J J J J ?_)))))
         refine Ze 83 J J J J (Zk 84 J J (Zm J J J ⟨J, J⟩) ?_)
         show BoolQ _ _ _ _ _ _
         refine Ui J ?_ by5 by3
         clear HSg HAg HHg HS HA HH HU HG HF HN IH; first | (simp_all; done) | grind
        ·skip
         refine Zs 77 J J J J (Yb (cs' := [_, _, _]) J Wb J J J ⟨J, J⟩) ?_
         refine Zs 78 J J J J (Zh J Wu J ⟨J, J⟩) ?_
         refine Zs 79 J J J J (Zp (i := 0) J Xb J J J ⟨J, J⟩) ?_
         refine Zs 80 J J J J (Yn (xs := [.tmp 77, .tmp 79]) J J (HAg) by1 ⟨J, J⟩) ?_
         refine Zs 81 J J J J (Zj J Wu J J ⟨J, J⟩) ?_
         refine Zs 82 J J J J (Zn J Xb J J ⟨J, J⟩) ?_
         refine Yy 83 J J J J (fun _ q => Yg (xs := [.tmp 80, .tmp 82]) J J (HHg) by1 q) ?_; intro c83 h83
         refine Zk 84 J J (Zm J J J ⟨J, J⟩) ?_
         show BoolQ _ _ _ _ _ _
         refine Ui J ?_ by5 by3
         clear HSg HAg HHg HS HA HH HU HG HF HN IH; first | (simp_all; done) | grind
       intro c84 h84
       refine Zb ?_
       rcases Zi h84 with ⟨rfl, g84⟩ | ⟨rfl, g84⟩
       ·refine Zq J (Zw (Yw (Zb (Zc (Za 93 J J J (Yx J J J (Uo _ (by omega)) ?_))))))
        refine Za 66 J J J (Zd J J (Vx (Xc ?_)))
        rw [if_neg (fun q => g84 ((hpq _).1 q))] at hf; exact ⟨i + 1, ⟨by show i + 1 ≤ gs.length; omega, hf⟩, by show gs.length - (i + 1) < gs.length - i; omega, by4, by3⟩
       ·refine Zu J (Zg ?_)
        rw [if_pos ((hpq _).2 g84)] at hf
        have hsp := hsh i _ hf.symm hxg
        rw [hsp] at hr
        have HUg := HU (Pr.mk gc ⟨gtk, gts, gtn, gtl⟩) i g84.2
        obtain ⟨h1r, h2r⟩ := Prod.mk.inj hr
        rw [h1r] at HUg
        simp only [Pf.cells] at HUg
        refine Zc (Za 85 J J J (Yb (cs' := [_, _, _]) J Wb J J J (Za 86 J J J (Zh J Wu J (Za 87 J J J (Zp (i := 0) J Xb J J J (Za 88 J J J (Zj J Wu J J (Za 89 J J J (Zn J Xb J J ?_))))))))))
        refine Za 90 J J J (Zd J J (Za 91 J J J (Yo (ns := [0, 1]) (xs := [.const (.int .i64 1), .tmp 90]) J tz_30 J tfl_30 J J J J (Za 92 J J J (Yn (xs := [.tmp 85, .tmp 87, .tmp 89, .tmp 91]) J J (HUg) by1 ?_)))))
        refine Zt J J (Zr (cs' := [_, _, _, _]) (i := 2) J ts_30 J J J J J (Uk J) J (Za 7 J J J (Zf J J (Vx (Zb (Ya ?_))))))
        subst h2r
        first
         | exact Vc (i := 0) rfl rfl rfl rfl Vm rfl by0 (Vz _) ⟨rfl, rfl⟩
         | exact Vc (i := 1) rfl rfl rfl rfl Vm rfl by0 (Vz _) ⟨rfl, rfl⟩
         | exact Vc (i := 2) rfl rfl rfl rfl Vm rfl by0 (Vz _) ⟨rfl, rfl⟩
         | exact Vc (i := 3) rfl rfl rfl rfl Vm rfl by0 (Vz _) ⟨rfl, rfl⟩
     ·refine Zu J (Zg (Zc (Za 63 J J J (Zx (cs' := [_, _, _, _]) (i := 0) J Vm J J J J (Zt J J (Zr (cs' := [_, _, _, _]) (i := 1) J ts_30 J J J J J (Uk J) J (Za 7 J J J (Zf J J (Vx (Zb (Ya ?_)))))))))))
      rw [List.take_of_length_le (by omega)] at ha hb
      rw [if_pos ⟨rfl, hb.symm⟩, ← ha] at hr
      cases hr
      first
       | exact Vc (i := 0) rfl rfl rfl rfl Vm rfl by0 (Vz _) ⟨rfl, rfl⟩
       | exact Vc (i := 1) rfl rfl rfl rfl Vm rfl by0 (Vz _) ⟨rfl, rfl⟩
    ·refine Zu J (Zw (Zb (Zg (Zz (Zg ?_)))))
     obtain ⟨⟨qc, ⟨qtk, qts, qtn, qtl⟩⟩, hxq⟩ := Yu (l := l) (i := k) by7
     have hcq := Pr.cellss_get hxq
     have hmq := Uq hxq
     have HP := IH _ hmq
     have hsq := We hxq
     obtain ⟨⟨⟨yk, yn, yc, yl⟩, c50⟩, hy⟩ : ∃ z, F (Pr.mk qc ⟨qtk, qts, qtn, qtl⟩) = z := ⟨_, rfl⟩
     rw [hy] at HP
     simp only [Pf.cells, Ty.cells] at HP
     refine Zc (Za 42 J J J (Yd J te_22 J (.seq _ _) J J (hcq) (Za 43 J J J (Yb (cs' := [_, _, _, _, _]) J ta_27 J J J (Za 13 J J J (Zy (cs' := [_, _, _, _, _]) J tz_27 J J ?_)))))); intro b13
     refine Zt J J (Zr (cs' := [_, _, _, _, _]) (i := 0) J ts_27 J J J J J (Uk J) J (Vx (Zb (Zg (Zc (Za 45 J J J (Yb (cs' := [_, _, _]) J Wb J J J (Za 46 J J J (Zd J J (Za 47 J J J (Zx (cs' := [_, _, _, _, _]) (i := 0) J ta_27 J J J J (Za 48 J J J (Yn (xs := [.tmp 45, .tmp 46, .tmp 47]) J J (HP) by1 ?_)))))))))))))
     refine Za 44 J J J (Zd J J (Za 49 J J J (Xa J J J (Za 50 J J J (Xa J J J (Za 14 J J J (Zy (cs' := [_, _, _, _]) J tz_30 J J ?_))))))); intro b14
     refine Zt J J (Zr (cs' := [_, _, _, _]) (i := 0) J ts_30 J J J J J (Uk J) J (Za 15 J J J (Zf J J (Vx (Zb (Zg (Xm 10 (c10 = true ∧ c50 = true) ?_ _ _ J ?_)))))))
     ·skip
      refine Za 51 J J J (Zd J J ?_)
      have h51 : (c10 = true ↔ c10 = true) := Iff.rfl
      refine Za 52 J J J (Zd J J ?_)
      rcases Zi h51 with ⟨rfl, g51⟩ | ⟨rfl, g51⟩
      ·skip
       refine Zl 53 J J J J J (Za 54 J J J (Zm J J J (Za 10 J J J (Zf J J (Vx (Ui J ?_ by5 by3))))))
       first | (simp_all; done) | grind
      ·skip
       refine Zo 53 J J J J J (Zd J J ?_)
       have h53 : (c50 = true ↔ c50 = true) := Iff.rfl
       refine Za 54 J J J (Zm J J J (Za 10 J J J (Zf J J (Vx (Ui J ?_ by5 by3)))))
       first | (simp_all; done) | grind
     intro c10 h10
     refine Zb (Zc (Za 55 J J J (Zh J Vj J (Za 56 J J J (Zp (i := 2) J ta_28 J J J (Za 57 J J J (Zx (cs' := [_, _, _, _]) (i := 0) J Vm J J J J (Za 58 J J J (Yh (xs := [.tmp 57]) el_28 J J J J J J (Uk J) (Za 59 J J J (Xj (i := 4) el_28 J J J J (.seq _ _) by6 ?_)))))))))))
     intro u59
     refine Za 60 J J J (Zh J Vj J (Zt J J (Zr (cs' := [_, _, _, _]) (i := 2) J ts_28 J J J J J (Uk J) J (Vx (Yw (Zb (Zc (Za 61 J J J (Yx J J J (Uo _ (by omega)) ?_)))))))))
     refine Za 40 J J J (Zd J J (Vx (Xc ?_)))
     exact ⟨(k + 1, c10, acc ++ [Pf.mk yk yn yc yl], u59), ⟨by show k + 1 ≤ l.length; omega, by show acc ++ _ = _; rw [hsq, List.map_append, ← ha]; simp [hy], by show c10 = _; rw [hsq, List.all_append, ← hb]; exact Bool.eq_iff_iff.2 (h10.trans (by simp [hy]))⟩, by show l.length - (k + 1) < l.length - k; omega, by4, (Ub _ (Ub _ (Uc _ (Ug (Ue _) (Ug (Ue _) (Ug (Ue _) (Ug (Uj (by rw [Pf.cellss_app']; rfl)) (Uf _))))) (Ud J))))⟩
  ·refine Zu J (Zg (Zc (Za 23 J J J (Zd J J (Za 24 J J J (Yo (ns := [0, 1]) (xs := [.const (.int .i64 1), .tmp 23]) J tz_30 J tfl_30 J J J J (Zt J J (Zr (cs' := [_, _, _, _]) (i := 0) J ts_30 J J J J J (Uk J) J (Za 7 J J J (Zf J J (Vx (Zb ?_))))))))))))
   refine Ya ?_
   rw [if_pos g22] at hr
   cases hr
   exact Vc (i := 0) J J J J Vm J by0 (Vz _) ⟨J, J⟩
set_option maxHeartbeats 4000000 in
set_option maxRecDepth 100000 in
theorem EqF_pf (v : En) (gs : List Pr) (g : FuncId) (cs : List AV) (xs : List Pf) (qs : List Pr) (hg : ∀ x ∈ xs, ∀ q ∈ qs, BCall Tryz.prog g ([] ++ [.agg x.cells, .agg q.cells] ++ cs) (holdsP v gs x q)) : BCall Tryz.prog 41 [.seq 4 (Pf.cellss xs), .seq 5 (Pr.cellss qs), .clo (.func g) [] cs] (holdsL v gs xs qs) := by
 have hx := Pf.cellss_len xs
 have hq := Pr.cellss_len qs
 refine Zv Tryz.func41 J (by kernel_rfl) J (Uk J) ?_
 refine Ye ?_
 refine c_lens (t := 0) J (.seq _ _) (fun hmax => ?_)
 refine Zg (Zc (Za 6 J J J (Zf J J (Vx (Zb (Zg (Zg (Zc (Za 10 J J J (Zd J J ?_))))))))))
 refine Za 11 J J J (Yv J tu_28 J (.seq _ _) (fun n11 => ?_))
 refine Za 12 J J J (Zd J J ?_)
 refine Za 13 J J J (Yv J tu_22 J (.seq _ _) (fun n13 => ?_))
 refine Za 14 J J J (Xp J J J ?_); intro c14 h14
 refine Vx (Zb ?_)
 rcases Zi h14 with ⟨rfl, g14⟩ | ⟨rfl, g14⟩
 ·refine Zq J (Zw (Zb (Zg (Zg (Zc (Za 15 J J J (Zd J J ?_)))))))
  refine Za 16 J J J (Yv J tu_28 J (.seq _ _) (fun n16 => ?_))
  refine Za 17 J J J (Zd J J (Vx (Zb (Zz ?_))))
  apply Xl [0, 3, 4, 5, 6, 7, 8, 9, 10, 11, 12, 13, 14, 17, 18, 19, 20, 21, 22, 23, 24, 25, 26, 27, 28, 29, 30, 31] (σ := Nat) (fun zz => match zz with | i => [(17, .val (.int .i64 i))]) (fun zz => match zz with | i => i ≤ xs.length ∧ (holdsL v gs (xs.drop i) (qs.drop i) ↔ holdsL v gs xs qs)) (fun zz => match zz with | i => xs.length - i) (0)
  ·repeat' (first | exact Un | apply Ul rfl | apply Um rfl)
  ·exact ⟨Nat.zero_le _, by rw [List.drop_zero, List.drop_zero]⟩
  ·exact by4
  rintro i hI
  try dsimp only [List.cons_append, List.nil_append] at hI ⊢
  obtain ⟨hi, hf⟩ := hI
  refine Zg (Zc (Za 18 J J J (Ys J J J ?_))); intro c18 h18
  refine Vx (Zb (Zg ?_))
  rcases Zi h18 with ⟨rfl, g18⟩ | ⟨rfl, g18⟩
  ·refine Zq J (Xd (Xf (Xz (Xe (Zb (Zg (Zc (Za 6 J J J (Zf J J (Vx (Zb (Ya ?_))))))))))))
   exact Yf J J (Ue _) (Vz _) ⟨⟨true, by simp only [true_iff]; exact hf.1 (by rw [Ur (by omega), Ur (by omega), holdsL]; trivial), J⟩, J⟩
  ·refine Zu J (Zw (Zb (Zg (Zz (Zg ?_)))))
   obtain ⟨⟨yk, yn, yc, yl⟩, hxy⟩ := Yu (l := xs) (i := i) (by omega)
   have hcy := Pf.cellss_get hxy
   obtain ⟨⟨zc, ⟨ztk, zts, ztn, ztl⟩⟩, hxz⟩ := Yu (l := qs) (i := i) (by omega)
   have hcz := Pr.cellss_get hxz
   have HG := hg _ (Uq hxy) _ (Uq hxz)
   rw [Xs hxy, Xs hxz, holdsL] at hf
   simp only [Pf.cells, Pr.cells, Ty.cells, List.nil_append] at hcy hcz HG
   refine Zc (Za 19 J J J (Zd J J (Za 20 J J J (Yd J te_28 J (.seq _ _) J J (hcy) (Za 21 J J J (Yb (cs' := [_, _, _, _]) J Vm J J J (Za 8 J J J (Zy (cs' := [_, _, _, _]) J tz_30 J J ?_)))))))); intro b8
   refine Za 7 J J J (Zf J J (Zt J J (Zr (cs' := [_, _, _, _]) (i := 0) J ts_30 J J J J J (Uk J) J (Vx (Zb (Zg (Zc (Za 22 J J J (Zd J J (Za 23 J J J (Zd J J (Za 24 J J J (Yd J te_22 J (.seq _ _) J J (hcz) ?_)))))))))))))
   refine Za 25 J J J (Yb (cs' := [_, _, _, _, _]) J ta_27 J J J (Za 9 J J J (Zy (cs' := [_, _, _, _, _]) J tz_27 J J ?_))); intro b9
   refine Zt J J (Zr (cs' := [_, _, _, _, _]) (i := 0) J ts_27 J J J J J (Uk J) J (Vx (Zb (Zg (Zc (Za 26 J J J (Zd J J (Za 27 J J J (Zx (cs' := [_, _, _, _]) (i := 1) J Vm J J J J (Za 28 J J J (Zx (cs' := [_, _, _, _, _]) (i := 0) J ta_27 J J J J (Za 29 J J J (op_callvb (xs := [.tmp 27, .tmp 28]) J J J (HG) by1 ?_))))))))))))); intro c29 h29
   refine Za 30 J J J (Wf J J ?_); intro c30 h30
   try replace h30 := nott h30 h29
   refine Vx (Zb ?_)
   rcases Zi h30 with ⟨rfl, g30⟩ | ⟨rfl, g30⟩
   ·refine Zq J (Zw (Yw (Zb (Zc (Za 31 J J J (Yx J J J (Uo _ (by omega)) ?_))))))
    refine Za 17 J J J (Zd J J (Vx (Xc ?_)))
    exact ⟨i + 1, ⟨by show i + 1 ≤ xs.length; omega, ⟨fun h => hf.1 ⟨Classical.not_not.1 g30, h⟩, fun h => (hf.2 h).2⟩⟩, by show xs.length - (i + 1) < xs.length - i; omega, by4, by3⟩
   ·refine Zu J (Zg (Zc (Za 6 J J J (Zf J J (Vx (Zb (Ya ?_)))))))
    exact Yf J J (Ue _) (Vz _) ⟨⟨false, by simp only [Bool.false_eq_true, false_iff]; exact fun h => g30 (hf.2 h).1, J⟩, J⟩
 ·refine Zu J (Zg (Zc (Za 6 J J J (Zf J J (Vx (Zb (Ya ?_)))))))
  exact Yf J J (Ue _) (Vz _) ⟨⟨false, by simp only [Bool.false_eq_true, false_iff]; exact fun h => g14 (by have := holdsL_len h; omega), J⟩, J⟩
set_option maxHeartbeats 4000000 in
set_option maxRecDepth 100000 in
theorem Holds1_in (v : En) (gs : List Pr) (i : Nat) (g : Pr) (hg : gs[i]? = some g) (c : ByteArray) (ks : List Pf) (p : Pr) : BCall Tryz.prog 14 [.agg v.cells, .seq 5 (Pr.cellss gs), .agg (Pf.mk 1 i c ks).cells, .agg p.cells] (c = kE ∧ ks.length = 0 ∧ g = p) := by
 have H := same_c g p
 obtain ⟨q, hq⟩ : ∃ q : Prop, (g = p) = q := ⟨_, rfl⟩
 rw [hq] at H ⊢
 clear hq
 have hgl := Pr.cellss_len gs
 have hkl := Pf.cellss_len ks
 have hcg := Pr.cellss_get hg
 have hi := Vf hg
 obtain ⟨gc, ⟨gtk, gts, gtn, gtl⟩⟩ := g
 obtain ⟨pc, ⟨pk, ps, pn, pl⟩⟩ := p
 obtain ⟨da, cl, ins⟩ := v
 simp only [En.cells, Pf.cells, Pr.cells, Ty.cells] at *
 refine Zv Tryz.func14 J (by kernel_rfl) J (Uk J) ?_
 refine Ye (Zg (Zc (Za 4 J J J (Yj (cs' := [_, _, _]) J J J J (Za 5 J J J (Yj (cs' := [_]) J J J J (Za 6 J J J (Yj (cs' := [_, _, _, _]) J J J J (Za 7 J J J (Yj (cs' := [_, _, _, _, _]) J J J J ?_))))))))))
 refine Za 8 J J J (Zf J J (Vx (Zb (Zg (Zg (Zc (Za 11 J J J (Zj J Wp J J (Za 12 J J J (Zn J Yz J J (Vx (Zb (Zz (Zg (Zc (Za 14 J J J (Yk J J J ?_))))))))))))))))); intro c14 h14
 refine Za 13 J J J (Zf J J (Vx (Zb ?_)))
 rcases Zi h14 with ⟨rfl, g14⟩ | ⟨rfl, g14⟩
 ·exact absurd J g14
 ·refine Zu J (Zg (Wk 8 (c = kE ∧ ks.length = 0 ∧ q) Wi J ?_ _ _ J ?_))
  ·skip
   refine Zk 15 J J (Zj J tf_30_2 J J ⟨J, J⟩) ?_
   refine Zk 16 J J (Zn J Xb J J ⟨J, J⟩) ?_
   refine Xn 17 J J (fun _ q => Xv J J J q) ?_; intro c17 h17
   refine Zk 18 J J (Zd J J ⟨J, J⟩) ?_
   rcases Zi h17 with ⟨rfl, g17⟩ | ⟨rfl, g17⟩
   ·skip
    refine Ze 19 J J J J (Ze 20 J J J J (Ze 21 J J J J (Ze 22 J J J J (Zk 23 J J (Zm J J J ⟨J, J⟩) ?_))))
    refine Zk 24 J J (Zd J J ⟨J, J⟩) ?_
    refine Ze 25 J J J J (Ze 26 J J J J (Ze 27 J J J J (Zk 28 J J (Zm J J J ⟨J, J⟩) ?_)))
    refine Zk 29 J J (Zd J J ⟨J, J⟩) ?_
    refine Ze 30 J J J J (Ze 31 J J J J (Ze 32 J J J J (Ze 33 J J J J (Ze 34 J J J J (Zk 35 J J (Zm J J J ⟨J, J⟩) ?_)))))
    refine Zk 36 J J (Zd J J ⟨J, J⟩) ?_
    refine Ze 37 J J J J (Ze 38 J J J J (Ze 39 J J J J (Ze 40 J J J J (Ze 41 J J J J (Ze 42 J J J J ?_)))))
    refine Ze 43 J J J J (Zk 44 J J (Zm J J J ⟨J, J⟩) ?_)
    refine Zk 8 J J (Zf J J ⟨J, J⟩) ?_
    show BoolQ _ _ _ _ _ _
    refine Ui J ?_ by5 by3
    clear H; first | (simp_all; done) | (simp_all; omega) | grind
   ·skip
    refine Zs 19 J J J J (Zj J Vj J J ⟨J, J⟩) ?_
    refine Zs 20 J J J J (Zn J ta_28 J J ⟨J, J⟩) ?_
    refine Zs 21 J J J J (Yv J tu_28 J (.seq _ _) (fun _ => ⟨J, J⟩)) ?_
    refine Yy 22 J J J J (fun _ q => Yk J J J q) ?_; intro c22 h22
    refine Zk 23 J J (Zm J J J ⟨J, J⟩) ?_
    refine Zk 24 J J (Zd J J ⟨J, J⟩) ?_
    rcases Zi h22 with ⟨rfl, g22⟩ | ⟨rfl, g22⟩
    ·skip
     refine Ze 25 J J J J (Ze 26 J J J J (Ze 27 J J J J (Zk 28 J J (Zm J J J ⟨J, J⟩) ?_)))
     refine Zk 29 J J (Zd J J ⟨J, J⟩) ?_
     refine Ze 30 J J J J (Ze 31 J J J J (Ze 32 J J J J (Ze 33 J J J J (Ze 34 J J J J (Zk 35 J J (Zm J J J ⟨J, J⟩) ?_)))))
     refine Zk 36 J J (Zd J J ⟨J, J⟩) ?_
     refine Ze 37 J J J J (Ze 38 J J J J (Ze 39 J J J J (Ze 40 J J J J (Ze 41 J J J J (Ze 42 J J J J ?_)))))
     refine Ze 43 J J J J (Zk 44 J J (Zm J J J ⟨J, J⟩) ?_)
     refine Zk 8 J J (Zf J J ⟨J, J⟩) ?_
     show BoolQ _ _ _ _ _ _
     refine Ui J ?_ by5 by3
     clear H; first | (simp_all; done) | (simp_all; omega) | grind
    ·skip
     refine Zs 25 J J J J (Zj J Xu J J ⟨J, J⟩) ?_
     refine Zs 26 J J J J (Zn J Yz J J ⟨J, J⟩) ?_
     refine Yy 27 J J J J (fun _ q => Xx J J J q) ?_; intro c27 h27
     refine Zk 28 J J (Zm J J J ⟨J, J⟩) ?_
     refine Zk 29 J J (Zd J J ⟨J, J⟩) ?_
     rcases Zi h27 with ⟨rfl, g27⟩ | ⟨rfl, g27⟩
     ·skip
      refine Ze 30 J J J J (Ze 31 J J J J (Ze 32 J J J J (Ze 33 J J J J (Ze 34 J J J J (Zk 35 J J (Zm J J J ⟨J, J⟩) ?_)))))
      refine Zk 36 J J (Zd J J ⟨J, J⟩) ?_
      refine Ze 37 J J J J (Ze 38 J J J J (Ze 39 J J J J (Ze 40 J J J J (Ze 41 J J J J (Ze 42 J J J J ?_)))))
      refine Ze 43 J J J J (Zk 44 J J (Zm J J J ⟨J, J⟩) ?_)
      refine Zk 8 J J (Zf J J ⟨J, J⟩) ?_
      show BoolQ _ _ _ _ _ _
      refine Ui J ?_ by5 by3
      clear H; first | (simp_all; done) | (simp_all; omega) | grind
     ·skip
      refine Zs 30 J J J J (Zj J Xu J J ⟨J, J⟩) ?_
      refine Zs 31 J J J J (Zn J Yz J J ⟨J, J⟩) ?_
      refine Zs 32 J J J J (Zn J ta_22 J J ⟨J, J⟩) ?_
      refine Zs 33 J J J J (Yv J tu_22 J (.seq _ _) (fun _ => ⟨J, J⟩)) ?_
      refine Yy 34 J J J J (fun _ q => Ys J J J q) ?_; intro c34 h34
      refine Zk 35 J J (Zm J J J ⟨J, J⟩) ?_
      refine Zk 36 J J (Zd J J ⟨J, J⟩) ?_
      rcases Zi h34 with ⟨rfl, g34⟩ | ⟨rfl, g34⟩
      ·skip
       refine Ze 37 J J J J (Ze 38 J J J J (Ze 39 J J J J (Ze 40 J J J J (Ze 41 J J J J (Ze 42 J J J J ?_)))))
       refine Ze 43 J J J J (Zk 44 J J (Zm J J J ⟨J, J⟩) ?_)
       refine Zk 8 J J (Zf J J ⟨J, J⟩) ?_
       show BoolQ _ _ _ _ _ _
       refine Ui J ?_ by5 by3
       clear H; first | (simp_all; done) | (simp_all; omega) | grind
      ·skip
       refine Zs 37 J J J J (Zn J ta_22 J J ⟨J, J⟩) ?_
       refine Zs 38 J J J J (Zj J Xu J J ⟨J, J⟩) ?_
       refine Zs 39 J J J J (Zn J Yz J J ⟨J, J⟩) ?_
       refine Zs 40 J J J J (Yd J te_22 J (.seq _ _) J J (hcg) ⟨J, J⟩) ?_
       refine Zs 41 J J J J (Yb (cs' := [_, _, _, _, _]) J ta_27 J J J ⟨J, J⟩) ?_
       refine Zs 42 J J J J (Yb (cs' := [_, _, _, _, _]) J ta_27 J J J ⟨J, J⟩) ?_
       refine Yy 43 J J J J (fun _ q => Yg (xs := [.tmp 41, .tmp 42]) J J (H) by1 q) ?_; intro c43 h43
       refine Zk 44 J J (Zm J J J ⟨J, J⟩) ?_
       refine Zk 8 J J (Zf J J ⟨J, J⟩) ?_
       show BoolQ _ _ _ _ _ _
       refine Ui J ?_ by5 by3
       clear H; first | (simp_all; done) | (simp_all; omega) | grind
  intro c8 h8
  exact Zb (Ya (Yf J J (Ue _) (Vz _) ⟨⟨_, h8, J⟩, J⟩))
set_option maxHeartbeats 4000000 in
set_option maxRecDepth 100000 in
theorem Holds1_out (v : En) (gs : List Pr) (n : Int) (hn : n < 0 ∨ gs.length ≤ n) (c : ByteArray) (ks : List Pf) (p : Pr) : BCall Tryz.prog 14 [.agg v.cells, .seq 5 (Pr.cellss gs), .agg (Pf.mk 1 n c ks).cells, .agg p.cells] False := by
 have hgl := Pr.cellss_len gs
 have hkl := Pf.cellss_len ks
 obtain ⟨pc, ⟨pk, ps, pn, pl⟩⟩ := p
 obtain ⟨da, cl, ins⟩ := v
 simp only [En.cells, Pf.cells, Pr.cells, Ty.cells] at *
 refine Zv Tryz.func14 J (by kernel_rfl) J (Uk J) ?_
 refine Ye (Zg (Zc (Za 4 J J J (Yj (cs' := [_, _, _]) J J J J (Za 5 J J J (Yj (cs' := [_]) J J J J (Za 6 J J J (Yj (cs' := [_, _, _, _]) J J J J (Za 7 J J J (Yj (cs' := [_, _, _, _, _]) J J J J ?_))))))))))
 refine Za 8 J J J (Zf J J (Vx (Zb (Zg (Zg (Zc (Za 11 J J J (Zj J Wp J J (Za 12 J J J (Zn J Yz J J (Vx (Zb (Zz (Zg (Zc (Za 14 J J J (Yk J J J ?_))))))))))))))))); intro c14 h14
 refine Za 13 J J J (Zf J J (Vx (Zb ?_)))
 rcases Zi h14 with ⟨rfl, g14⟩ | ⟨rfl, g14⟩
 ·exact absurd J g14
 ·refine Zu J (Zg (Wk 8 (False) Wi J ?_ _ _ J ?_))
  ·skip
   refine Zk 15 J J (Zj J tf_30_2 J J ⟨J, J⟩) ?_
   refine Zk 16 J J (Zn J Xb J J ⟨J, J⟩) ?_
   refine Xn 17 J J (fun _ q => Xv J J J q) ?_; intro c17 h17
   refine Zk 18 J J (Zd J J ⟨J, J⟩) ?_
   rcases Zi h17 with ⟨rfl, g17⟩ | ⟨rfl, g17⟩
   ·skip
    refine Ze 19 J J J J (Ze 20 J J J J (Ze 21 J J J J (Ze 22 J J J J (Zk 23 J J (Zm J J J ⟨J, J⟩) ?_))))
    refine Zk 24 J J (Zd J J ⟨J, J⟩) ?_
    refine Ze 25 J J J J (Ze 26 J J J J (Ze 27 J J J J (Zk 28 J J (Zm J J J ⟨J, J⟩) ?_)))
    refine Zk 29 J J (Zd J J ⟨J, J⟩) ?_
    refine Ze 30 J J J J (Ze 31 J J J J (Ze 32 J J J J (Ze 33 J J J J (Ze 34 J J J J (Zk 35 J J (Zm J J J ⟨J, J⟩) ?_)))))
    refine Zk 36 J J (Zd J J ⟨J, J⟩) ?_
    refine Ze 37 J J J J (Ze 38 J J J J (Ze 39 J J J J (Ze 40 J J J J (Ze 41 J J J J (Ze 42 J J J J ?_)))))
    refine Ze 43 J J J J (Zk 44 J J (Zm J J J ⟨J, J⟩) ?_)
    refine Zk 8 J J (Zf J J ⟨J, J⟩) ?_
    show BoolQ _ _ _ _ _ _
    refine Ui J ?_ by5 by3
    first | (simp_all; done) | (simp_all; omega) | grind
   ·skip
    refine Zs 19 J J J J (Zj J Vj J J ⟨J, J⟩) ?_
    refine Zs 20 J J J J (Zn J ta_28 J J ⟨J, J⟩) ?_
    refine Zs 21 J J J J (Yv J tu_28 J (.seq _ _) (fun _ => ⟨J, J⟩)) ?_
    refine Yy 22 J J J J (fun _ q => Yk J J J q) ?_; intro c22 h22
    refine Zk 23 J J (Zm J J J ⟨J, J⟩) ?_
    refine Zk 24 J J (Zd J J ⟨J, J⟩) ?_
    rcases Zi h22 with ⟨rfl, g22⟩ | ⟨rfl, g22⟩
    ·skip
     refine Ze 25 J J J J (Ze 26 J J J J (Ze 27 J J J J (Zk 28 J J (Zm J J J ⟨J, J⟩) ?_)))
     refine Zk 29 J J (Zd J J ⟨J, J⟩) ?_
     refine Ze 30 J J J J (Ze 31 J J J J (Ze 32 J J J J (Ze 33 J J J J (Ze 34 J J J J (Zk 35 J J (Zm J J J ⟨J, J⟩) ?_)))))
     refine Zk 36 J J (Zd J J ⟨J, J⟩) ?_
     refine Ze 37 J J J J (Ze 38 J J J J (Ze 39 J J J J (Ze 40 J J J J (Ze 41 J J J J (Ze 42 J J J J ?_)))))
     refine Ze 43 J J J J (Zk 44 J J (Zm J J J ⟨J, J⟩) ?_)
     refine Zk 8 J J (Zf J J ⟨J, J⟩) ?_
     show BoolQ _ _ _ _ _ _
     refine Ui J ?_ by5 by3
     first | (simp_all; done) | (simp_all; omega) | grind
    ·skip
     refine Zs 25 J J J J (Zj J Xu J J ⟨J, J⟩) ?_
     refine Zs 26 J J J J (Zn J Yz J J ⟨J, J⟩) ?_
     refine Yy 27 J J J J (fun _ q => Xx J J J q) ?_; intro c27 h27
     refine Zk 28 J J (Zm J J J ⟨J, J⟩) ?_
     refine Zk 29 J J (Zd J J ⟨J, J⟩) ?_
     rcases Zi h27 with ⟨rfl, g27⟩ | ⟨rfl, g27⟩
     ·skip
      refine Ze 30 J J J J (Ze 31 J J J J (Ze 32 J J J J (Ze 33 J J J J (Ze 34 J J J J (Zk 35 J J (Zm J J J ⟨J, J⟩) ?_)))))
      refine Zk 36 J J (Zd J J ⟨J, J⟩) ?_
      refine Ze 37 J J J J (Ze 38 J J J J (Ze 39 J J J J (Ze 40 J J J J (Ze 41 J J J J (Ze 42 J J J J ?_)))))
      refine Ze 43 J J J J (Zk 44 J J (Zm J J J ⟨J, J⟩) ?_)
      refine Zk 8 J J (Zf J J ⟨J, J⟩) ?_
      show BoolQ _ _ _ _ _ _
      refine Ui J ?_ by5 by3
      first | (simp_all; done) | (simp_all; omega) | grind
     ·skip
      refine Zs 30 J J J J (Zj J Xu J J ⟨J, J⟩) ?_
      refine Zs 31 J J J J (Zn J Yz J J ⟨J, J⟩) ?_
      refine Zs 32 J J J J (Zn J ta_22 J J ⟨J, J⟩) ?_
      refine Zs 33 J J J J (Yv J tu_22 J (.seq _ _) (fun _ => ⟨J, J⟩)) ?_
      refine Yy 34 J J J J (fun _ q => Ys J J J q) ?_; intro c34 h34
      refine Zk 35 J J (Zm J J J ⟨J, J⟩) ?_
      refine Zk 36 J J (Zd J J ⟨J, J⟩) ?_
      rcases Zi h34 with ⟨rfl, g34⟩ | ⟨rfl, g34⟩
      ·skip
       refine Ze 37 J J J J (Ze 38 J J J J (Ze 39 J J J J (Ze 40 J J J J (Ze 41 J J J J (Ze 42 J J J J ?_)))))
       refine Ze 43 J J J J (Zk 44 J J (Zm J J J ⟨J, J⟩) ?_)
       refine Zk 8 J J (Zf J J ⟨J, J⟩) ?_
       show BoolQ _ _ _ _ _ _
       refine Ui J ?_ by5 by3
       first | (simp_all; done) | (simp_all; omega) | grind
      ·omega
  intro c8 h8
  exact Zb (Ya (Yf J J (Ue _) (Vz _) ⟨⟨_, h8, J⟩, J⟩))
theorem classI_hit {v : En} {c : ByteArray} (h : 0 ≤ classI v c) : ∃ (j : Nat) (z : Cl), classI v c = j ∧ v.cl[j]? = some z ∧ supersOf v c = z.su := by
 obtain ⟨cx, hcx, hcs, _⟩ := findI_get (fun (c' : Cl) => sameB c'.s c) v.cl 0 h
 refine ⟨(classI v c).toNat, cx, by omega, hcx, ?_⟩
 unfold supersOf
 rw [show v.cl[(classI v c).toNat]? = some cx from hcx]
 rfl
set_option maxHeartbeats 4000000 in
set_option maxRecDepth 100000 in
theorem Holds2_no (v : En) (gs : List Pr) (n : Int) (c : ByteArray) (hc : ¬ 0 ≤ classI v c) (ks : List Pf) (p : Pr) : BCall Tryz.prog 14 [.agg v.cells, .seq 5 (Pr.cellss gs), .agg (Pf.mk 2 n c ks).cells, .agg p.cells] False := by
 have H := tClass_c v c
 rw [show decide (0 ≤ classI v c) = false from decide_eq_false hc] at H
 generalize max (classI v c) 0 = m at *
 clear hc
 obtain ⟨pc, ⟨pk, ps, pn, pl⟩⟩ := p
 obtain ⟨da, cl, ins⟩ := v
 simp only [En.cells, Pf.cells, Pr.cells, Ty.cells] at *
 refine Zv Tryz.func14 J (by kernel_rfl) J (Uk J) ?_
 refine Ye (Zg (Zc (Za 4 J J J (Yj (cs' := [_, _, _]) J J J J (Za 5 J J J (Yj (cs' := [_]) J J J J (Za 6 J J J (Yj (cs' := [_, _, _, _]) J J J J (Za 7 J J J (Yj (cs' := [_, _, _, _, _]) J J J J ?_))))))))))
 refine Za 8 J J J (Zf J J (Vx (Zb (Zg (Zg (Zc (Za 11 J J J (Zj J Wp J J (Za 12 J J J (Zn J Yz J J (Vx (Zb (Zz (Zg (Zc (Za 14 J J J (Yk J J J ?_))))))))))))))))); intro c14 h14
 refine Za 13 J J J (Zf J J (Vx (Zb ?_)))
 rcases Zi h14 with ⟨rfl, g14⟩ | ⟨rfl, g14⟩
 ·refine Zq J (Zg (Zc (Za 46 J J J (Yk J J J ?_)))); intro c46 h46
  refine Za 45 J J J (Zf J J (Vx (Zb ?_)))
  rcases Zi h46 with ⟨rfl, g46⟩ | ⟨rfl, g46⟩
  ·exact absurd J g46
  ·refine Zu J (Zg (Zc (Za 48 J J J (Yb (cs' := [_, _, _]) J Wb J J J (Za 49 J J J (Zj J tf_30_2 J J (Za 50 J J J (Zn J Xb J J (Za 51 J J J (Yn (xs := [.tmp 48, .tmp 50]) J J (H) by1 ?_))))))))))
   refine Za 47 J J J (Zd J J (Za 52 J J J (Xa J J J (Za 53 J J J (Xa J J J (Za 9 J J J (Zf J J (Za 10 J J J (Zf J J (Vx (Zb (Zg (Zg ?_)))))))))))))
   refine Wk 93 (True) Wi J ?_ _ _ J ?_
   ·skip
    refine Zk 54 J J (Zd J J ⟨J, J⟩) ?_
    refine Xn 55 J J (fun _ q => Wf J J q) ?_; intro c55 h55
    try replace h55 := nott h55 h53
    refine Zk 56 J J (Zd J J ⟨J, J⟩) ?_
    rcases Zi h55 with ⟨rfl, g55⟩ | ⟨rfl, g55⟩
    ·first | exact absurd rfl g55 | simp_all
    ·skip
     refine Ze 57 J J J J (Ze 58 J J J J (Ze 59 J J J J (Ze 60 J J J J (Zk 61 J J (Zm J J J ⟨J, J⟩) ?_))))
     refine Zk 62 J J (Zd J J ⟨J, J⟩) ?_
     refine Ze 63 J J J J (Ze 64 J J J J (Ze 65 J J J J (Zk 66 J J (Zm J J J ⟨J, J⟩) ?_)))
     refine Zk 67 J J (Zd J J ⟨J, J⟩) ?_
     refine Ze 68 J J J J (Ze 69 J J J J (Ze 70 J J J J (Ze 71 J J J J (Ze 72 J J J J (Ze 73 J J J J ?_)))))
     refine Ze 74 J J J J (Ze 75 J J J J (Ze 76 J J J J (Ze 77 J J J J (Zk 78 J J (Zm J J J ⟨J, J⟩) ?_))))
     refine Zk 79 J J (Zd J J ⟨J, J⟩) ?_
     refine Ze 80 J J J J (Ze 81 J J J J (Ze 82 J J J J (Ze 83 J J J J (Ze 84 J J J J (Ze 85 J J J J ?_)))))
     refine Ze 86 J J J J (Ze 87 J J J J (Ze 88 J J J J (Ze 89 J J J J (Ze 90 J J J J (Ze 91 J J J J ?_)))))
     refine Ze 92 J J J J (Zk 93 J J (Zm J J J ⟨J, J⟩) ?_)
     show BoolQ _ _ _ _ _ _
     refine Ui J ?_ by5 by3
     first | (simp_all; done) | grind
   intro c93 h93
   refine Zb ?_
   rcases Zi h93 with ⟨rfl, g93⟩ | ⟨rfl, g93⟩
   ·exact absurd trivial g93
   ·exact Zu J (Zg (Zc (Za 8 J J J (Zf J J (Vx (Zb (Ya (Yf J J (Ue _) (Vz _) ⟨⟨false, by simp, J⟩, J⟩))))))))
 ·exact absurd g14 (by decide)
set_option maxHeartbeats 4000000 in
set_option maxRecDepth 100000 in
theorem Holds2_out (v : En) (gs : List Pr) (n : Int) (c : ByteArray) (j : Nat) (z : Cl) (hj : classI v c = j) (hz : v.cl[j]? = some z) (hn : n < 0 ∨ z.su.length ≤ n) (ks : List Pf) (p : Pr) : BCall Tryz.prog 14 [.agg v.cells, .seq 5 (Pr.cellss gs), .agg (Pf.mk 2 n c ks).cells, .agg p.cells] False := by
 have H := tClass_c v c
 rw [hj, show decide ((0 : Int) ≤ (j : Int)) = true from decide_eq_true (by omega), show max (j : Int) 0 = j by omega] at H
 clear hj
 have hcz := Cl.cellss_get hz
 have hjl := Vf hz
 have hkl := Pf.cellss_len ks
 obtain ⟨pc, ⟨pk, ps, pn, pl⟩⟩ := p
 obtain ⟨da, cl, ins⟩ := v
 have hcl := Cl.cellss_len cl
 obtain ⟨ys, yv, ysu, yms, yds, yp⟩ := z
 have hls := Xw ysu
 simp only [En.cells, Pf.cells, Pr.cells, Ty.cells, Cl.cells, Cl.su, En.cl] at *
 refine Zv Tryz.func14 J (by kernel_rfl) J (Uk J) ?_
 refine Ye (Zg (Zc (Za 4 J J J (Yj (cs' := [_, _, _]) J J J J (Za 5 J J J (Yj (cs' := [_]) J J J J (Za 6 J J J (Yj (cs' := [_, _, _, _]) J J J J (Za 7 J J J (Yj (cs' := [_, _, _, _, _]) J J J J ?_))))))))))
 refine Za 8 J J J (Zf J J (Vx (Zb (Zg (Zg (Zc (Za 11 J J J (Zj J Wp J J (Za 12 J J J (Zn J Yz J J (Vx (Zb (Zz (Zg (Zc (Za 14 J J J (Yk J J J ?_))))))))))))))))); intro c14 h14
 refine Za 13 J J J (Zf J J (Vx (Zb ?_)))
 rcases Zi h14 with ⟨rfl, g14⟩ | ⟨rfl, g14⟩
 ·refine Zq J (Zg (Zc (Za 46 J J J (Yk J J J ?_)))); intro c46 h46
  refine Za 45 J J J (Zf J J (Vx (Zb ?_)))
  rcases Zi h46 with ⟨rfl, g46⟩ | ⟨rfl, g46⟩
  ·exact absurd J g46
  ·refine Zu J (Zg (Zc (Za 48 J J J (Yb (cs' := [_, _, _]) J Wb J J J (Za 49 J J J (Zj J tf_30_2 J J (Za 50 J J J (Zn J Xb J J (Za 51 J J J (Yn (xs := [.tmp 48, .tmp 50]) J J (H) by1 ?_))))))))))
   refine Za 47 J J J (Zd J J (Za 52 J J J (Xa J J J (Za 53 J J J (Xa J J J (Za 9 J J J (Zf J J (Za 10 J J J (Zf J J (Vx (Zb (Zg (Zg ?_)))))))))))))
   refine Wk 93 (True) Wi J ?_ _ _ J ?_
   ·skip
    refine Zk 54 J J (Zd J J ⟨J, J⟩) ?_
    refine Xn 55 J J (fun _ q => Wf J J q) ?_; intro c55 h55
    try replace h55 := nott h55 h53
    refine Zk 56 J J (Zd J J ⟨J, J⟩) ?_
    rcases Zi h55 with ⟨rfl, g55⟩ | ⟨rfl, g55⟩
    ·skip
     refine Zs 57 J J J J (Zj J Vj J J ⟨J, J⟩) ?_
     refine Zs 58 J J J J (Zn J ta_28 J J ⟨J, J⟩) ?_
     refine Zs 59 J J J J (Yv J tu_28 J (.seq _ _) (fun _ => ⟨J, J⟩)) ?_
     refine Yy 60 J J J J (fun _ q => Xp J J J q) ?_; intro c60 h60
     refine Zk 61 J J (Zm J J J ⟨J, J⟩) ?_
     refine Zk 62 J J (Zd J J ⟨J, J⟩) ?_
     rcases Zi h60 with ⟨rfl, g60⟩ | ⟨rfl, g60⟩
     ·skip
      refine Zs 63 J J J J (Zj J Xu J J ⟨J, J⟩) ?_
      refine Zs 64 J J J J (Zn J Yz J J ⟨J, J⟩) ?_
      refine Yy 65 J J J J (fun _ q => Ys J J J q) ?_; intro c65 h65
      refine Zk 66 J J (Zm J J J ⟨J, J⟩) ?_
      refine Zk 67 J J (Zd J J ⟨J, J⟩) ?_
      rcases Zi h65 with ⟨rfl, g65⟩ | ⟨rfl, g65⟩
      ·skip
       refine Zs 68 J J J J (Zj J Xu J J ⟨J, J⟩) ?_
       refine Zs 69 J J J J (Zn J Yz J J ⟨J, J⟩) ?_
       refine Zs 70 J J J J (Zj J Wl J J ⟨J, J⟩) ?_
       refine Zs 71 J J J J (Zn J Vo J J ⟨J, J⟩) ?_
       refine Zs 72 J J J J (Zd J J ⟨J, J⟩) ?_
       refine Zs 73 J J J J (Yd J te_35 J (.seq _ _) J J (hcz) ⟨J, J⟩) ?_
       refine Zs 74 J J J J (Zj J tf_77_2 J J ⟨J, J⟩) ?_
       refine Zs 75 J J J J (Zn J ta_68 J J ⟨J, J⟩) ?_
       refine Zs 76 J J J J (Yv J tu_68 J (.seq _ _) (fun _ => ⟨J, J⟩)) ?_
       refine Yy 77 J J J J (fun _ q => Xx J J J q) ?_; intro c77 h77
       refine Zk 78 J J (Zm J J J ⟨J, J⟩) ?_
       refine Zk 79 J J (Zd J J ⟨J, J⟩) ?_
       rcases Zi h77 with ⟨rfl, g77⟩ | ⟨rfl, g77⟩
       ·omega
       ·skip
        refine Ze 80 J J J J (Ze 81 J J J J (Ze 82 J J J J (Ze 83 J J J J (Ze 84 J J J J (Ze 85 J J J J ?_)))))
        refine Ze 86 J J J J (Ze 87 J J J J (Ze 88 J J J J (Ze 89 J J J J (Ze 90 J J J J (Ze 91 J J J J ?_)))))
        refine Ze 92 J J J J (Zk 93 J J (Zm J J J ⟨J, J⟩) ?_)
        show BoolQ _ _ _ _ _ _
        refine Ui J ?_ by5 by3
        first | (simp_all; done) | grind
      ·skip
       refine Ze 68 J J J J (Ze 69 J J J J (Ze 70 J J J J (Ze 71 J J J J (Ze 72 J J J J (Ze 73 J J J J ?_)))))
       refine Ze 74 J J J J (Ze 75 J J J J (Ze 76 J J J J (Ze 77 J J J J (Zk 78 J J (Zm J J J ⟨J, J⟩) ?_))))
       refine Zk 79 J J (Zd J J ⟨J, J⟩) ?_
       refine Ze 80 J J J J (Ze 81 J J J J (Ze 82 J J J J (Ze 83 J J J J (Ze 84 J J J J (Ze 85 J J J J ?_)))))
       refine Ze 86 J J J J (Ze 87 J J J J (Ze 88 J J J J (Ze 89 J J J J (Ze 90 J J J J (Ze 91 J J J J ?_)))))
       refine Ze 92 J J J J (Zk 93 J J (Zm J J J ⟨J, J⟩) ?_)
       show BoolQ _ _ _ _ _ _
       refine Ui J ?_ by5 by3
       first | (simp_all; done) | grind
     ·skip
      refine Ze 63 J J J J (Ze 64 J J J J (Ze 65 J J J J (Zk 66 J J (Zm J J J ⟨J, J⟩) ?_)))
      refine Zk 67 J J (Zd J J ⟨J, J⟩) ?_
      refine Ze 68 J J J J (Ze 69 J J J J (Ze 70 J J J J (Ze 71 J J J J (Ze 72 J J J J (Ze 73 J J J J ?_)))))
      refine Ze 74 J J J J (Ze 75 J J J J (Ze 76 J J J J (Ze 77 J J J J (Zk 78 J J (Zm J J J ⟨J, J⟩) ?_))))
      refine Zk 79 J J (Zd J J ⟨J, J⟩) ?_
      refine Ze 80 J J J J (Ze 81 J J J J (Ze 82 J J J J (Ze 83 J J J J (Ze 84 J J J J (Ze 85 J J J J ?_)))))
      refine Ze 86 J J J J (Ze 87 J J J J (Ze 88 J J J J (Ze 89 J J J J (Ze 90 J J J J (Ze 91 J J J J ?_)))))
      refine Ze 92 J J J J (Zk 93 J J (Zm J J J ⟨J, J⟩) ?_)
      show BoolQ _ _ _ _ _ _
      refine Ui J ?_ by5 by3
      first | (simp_all; done) | grind
    ·skip
     refine Ze 57 J J J J (Ze 58 J J J J (Ze 59 J J J J (Ze 60 J J J J (Zk 61 J J (Zm J J J ⟨J, J⟩) ?_))))
     refine Zk 62 J J (Zd J J ⟨J, J⟩) ?_
     refine Ze 63 J J J J (Ze 64 J J J J (Ze 65 J J J J (Zk 66 J J (Zm J J J ⟨J, J⟩) ?_)))
     refine Zk 67 J J (Zd J J ⟨J, J⟩) ?_
     refine Ze 68 J J J J (Ze 69 J J J J (Ze 70 J J J J (Ze 71 J J J J (Ze 72 J J J J (Ze 73 J J J J ?_)))))
     refine Ze 74 J J J J (Ze 75 J J J J (Ze 76 J J J J (Ze 77 J J J J (Zk 78 J J (Zm J J J ⟨J, J⟩) ?_))))
     refine Zk 79 J J (Zd J J ⟨J, J⟩) ?_
     refine Ze 80 J J J J (Ze 81 J J J J (Ze 82 J J J J (Ze 83 J J J J (Ze 84 J J J J (Ze 85 J J J J ?_)))))
     refine Ze 86 J J J J (Ze 87 J J J J (Ze 88 J J J J (Ze 89 J J J J (Ze 90 J J J J (Ze 91 J J J J ?_)))))
     refine Ze 92 J J J J (Zk 93 J J (Zm J J J ⟨J, J⟩) ?_)
     show BoolQ _ _ _ _ _ _
     refine Ui J ?_ by5 by3
     first | (simp_all; done) | grind
   intro c93 h93
   refine Zb ?_
   rcases Zi h93 with ⟨rfl, g93⟩ | ⟨rfl, g93⟩
   ·exact absurd trivial g93
   ·exact Zu J (Zg (Zc (Za 8 J J J (Zf J J (Vx (Zb (Ya (Yf J J (Ue _) (Vz _) ⟨⟨false, by simp, J⟩, J⟩))))))))
 ·exact absurd g14 (by decide)
set_option maxHeartbeats 4000000 in
set_option maxRecDepth 100000 in
theorem Holds2_in (v : En) (gs : List Pr) (i : Nat) (c : ByteArray) (j : Nat) (z : Cl) (hj : classI v c = j) (hz : v.cl[j]? = some z) (s : ByteArray) (hs : z.su[i]? = some s) (ks : List Pf) (p : Pr) (hk : ¬ (ks.length = 1 ∧ s = p.c)) : BCall Tryz.prog 14 [.agg v.cells, .seq 5 (Pr.cellss gs), .agg (Pf.mk 2 i c ks).cells, .agg p.cells] False := by
 have H := tClass_c v c
 rw [hj, show decide ((0 : Int) ≤ (j : Int)) = true from decide_eq_true (by omega), show max (j : Int) 0 = j by omega] at H
 clear hj
 have hcz := Cl.cellss_get hz
 have hcs := strs_get hs
 have hjl := Vf hz
 have hsl := Vf hs
 have hkl := Pf.cellss_len ks
 obtain ⟨pc, ⟨pk, ps, pn, pl⟩⟩ := p
 obtain ⟨da, cl, ins⟩ := v
 have hcl := Cl.cellss_len cl
 obtain ⟨ys, yv, ysu, yms, yds, yp⟩ := z
 have hls := Xw ysu
 simp only [En.cells, Pf.cells, Pr.cells, Ty.cells, Cl.cells, Cl.su, En.cl, Pr.c] at *
 refine Zv Tryz.func14 J (by kernel_rfl) J (Uk J) ?_
 refine Ye (Zg (Zc (Za 4 J J J (Yj (cs' := [_, _, _]) J J J J (Za 5 J J J (Yj (cs' := [_]) J J J J (Za 6 J J J (Yj (cs' := [_, _, _, _]) J J J J (Za 7 J J J (Yj (cs' := [_, _, _, _, _]) J J J J ?_))))))))))
 refine Za 8 J J J (Zf J J (Vx (Zb (Zg (Zg (Zc (Za 11 J J J (Zj J Wp J J (Za 12 J J J (Zn J Yz J J (Vx (Zb (Zz (Zg (Zc (Za 14 J J J (Yk J J J ?_))))))))))))))))); intro c14 h14
 refine Za 13 J J J (Zf J J (Vx (Zb ?_)))
 rcases Zi h14 with ⟨rfl, g14⟩ | ⟨rfl, g14⟩
 ·refine Zq J (Zg (Zc (Za 46 J J J (Yk J J J ?_)))); intro c46 h46
  refine Za 45 J J J (Zf J J (Vx (Zb ?_)))
  rcases Zi h46 with ⟨rfl, g46⟩ | ⟨rfl, g46⟩
  ·exact absurd J g46
  ·refine Zu J (Zg (Zc (Za 48 J J J (Yb (cs' := [_, _, _]) J Wb J J J (Za 49 J J J (Zj J tf_30_2 J J (Za 50 J J J (Zn J Xb J J (Za 51 J J J (Yn (xs := [.tmp 48, .tmp 50]) J J (H) by1 ?_))))))))))
   refine Za 47 J J J (Zd J J (Za 52 J J J (Xa J J J (Za 53 J J J (Xa J J J (Za 9 J J J (Zf J J (Za 10 J J J (Zf J J (Vx (Zb (Zg (Zg ?_)))))))))))))
   refine Wk 93 (¬ (ks.length = 1 ∧ s = pc)) Wi J ?_ _ _ J ?_
   ·skip
    refine Zk 54 J J (Zd J J ⟨J, J⟩) ?_
    refine Xn 55 J J (fun _ q => Wf J J q) ?_; intro c55 h55
    try replace h55 := nott h55 h53
    refine Zk 56 J J (Zd J J ⟨J, J⟩) ?_
    rcases Zi h55 with ⟨rfl, g55⟩ | ⟨rfl, g55⟩
    ·skip
     refine Zs 57 J J J J (Zj J Vj J J ⟨J, J⟩) ?_
     refine Zs 58 J J J J (Zn J ta_28 J J ⟨J, J⟩) ?_
     refine Zs 59 J J J J (Yv J tu_28 J (.seq _ _) (fun _ => ⟨J, J⟩)) ?_
     refine Yy 60 J J J J (fun _ q => Xp J J J q) ?_; intro c60 h60
     refine Zk 61 J J (Zm J J J ⟨J, J⟩) ?_
     refine Zk 62 J J (Zd J J ⟨J, J⟩) ?_
     rcases Zi h60 with ⟨rfl, g60⟩ | ⟨rfl, g60⟩
     ·skip
      refine Zs 63 J J J J (Zj J Xu J J ⟨J, J⟩) ?_
      refine Zs 64 J J J J (Zn J Yz J J ⟨J, J⟩) ?_
      refine Yy 65 J J J J (fun _ q => Ys J J J q) ?_; intro c65 h65
      refine Zk 66 J J (Zm J J J ⟨J, J⟩) ?_
      refine Zk 67 J J (Zd J J ⟨J, J⟩) ?_
      rcases Zi h65 with ⟨rfl, g65⟩ | ⟨rfl, g65⟩
      ·skip
       refine Zs 68 J J J J (Zj J Xu J J ⟨J, J⟩) ?_
       refine Zs 69 J J J J (Zn J Yz J J ⟨J, J⟩) ?_
       refine Zs 70 J J J J (Zj J Wl J J ⟨J, J⟩) ?_
       refine Zs 71 J J J J (Zn J Vo J J ⟨J, J⟩) ?_
       refine Zs 72 J J J J (Zd J J ⟨J, J⟩) ?_
       refine Zs 73 J J J J (Yd J te_35 J (.seq _ _) J J (by first | exact hcz | exact hcs) ⟨J, J⟩) ?_
       refine Zs 74 J J J J (Zj J tf_77_2 J J ⟨J, J⟩) ?_
       refine Zs 75 J J J J (Zn J ta_68 J J ⟨J, J⟩) ?_
       refine Zs 76 J J J J (Yv J tu_68 J (.seq _ _) (fun _ => ⟨J, J⟩)) ?_
       refine Yy 77 J J J J (fun _ q => Xx J J J q) ?_; intro c77 h77
       refine Zk 78 J J (Zm J J J ⟨J, J⟩) ?_
       refine Zk 79 J J (Zd J J ⟨J, J⟩) ?_
       rcases Zi h77 with ⟨rfl, g77⟩ | ⟨rfl, g77⟩
       ·skip
        refine Zs 80 J J J J (Zj J Wl J J ⟨J, J⟩) ?_
        refine Zs 81 J J J J (Zn J Vo J J ⟨J, J⟩) ?_
        refine Zs 82 J J J J (Zd J J ⟨J, J⟩) ?_
        refine Zs 83 J J J J (Yd J te_35 J (.seq _ _) J J (by first | exact hcz | exact hcs) ⟨J, J⟩) ?_
        refine Zs 84 J J J J (Zj J tf_77_2 J J ⟨J, J⟩) ?_
        refine Zs 85 J J J J (Zn J ta_68 J J ⟨J, J⟩) ?_
        refine Zs 86 J J J J (Zj J Xu J J ⟨J, J⟩) ?_
        refine Zs 87 J J J J (Zn J Yz J J ⟨J, J⟩) ?_
        refine Zs 88 J J J J (Yd J te_68 J (.seq _ _) J J (by first | exact hcz | exact hcs) ⟨J, J⟩) ?_
        refine Zs 89 J J J J (Zn J Xb J J ⟨J, J⟩) ?_
        refine Zs 90 J J J J (Zj J Wu J J ⟨J, J⟩) ?_
        refine Zs 91 J J J J (Zn J Xb J J ⟨J, J⟩) ?_
        refine Yy 92 J J J J (fun _ q => op_sneq J J J q) ?_; intro c92 h92
        refine Zk 93 J J (Zm J J J ⟨J, J⟩) ?_
        show BoolQ _ _ _ _ _ _
        refine Ui J ?_ by5 by3
        first | (simp_all; done) | (simp_all; omega) | grind
       ·skip
        refine Ze 80 J J J J (Ze 81 J J J J (Ze 82 J J J J (Ze 83 J J J J (Ze 84 J J J J (Ze 85 J J J J ?_)))))
        refine Ze 86 J J J J (Ze 87 J J J J (Ze 88 J J J J (Ze 89 J J J J (Ze 90 J J J J (Ze 91 J J J J ?_)))))
        refine Ze 92 J J J J (Zk 93 J J (Zm J J J ⟨J, J⟩) ?_)
        show BoolQ _ _ _ _ _ _
        refine Ui J ?_ by5 by3
        first | (simp_all; done) | (simp_all; omega) | grind
      ·skip
       refine Ze 68 J J J J (Ze 69 J J J J (Ze 70 J J J J (Ze 71 J J J J (Ze 72 J J J J (Ze 73 J J J J ?_)))))
       refine Ze 74 J J J J (Ze 75 J J J J (Ze 76 J J J J (Ze 77 J J J J (Zk 78 J J (Zm J J J ⟨J, J⟩) ?_))))
       refine Zk 79 J J (Zd J J ⟨J, J⟩) ?_
       refine Ze 80 J J J J (Ze 81 J J J J (Ze 82 J J J J (Ze 83 J J J J (Ze 84 J J J J (Ze 85 J J J J ?_)))))
       refine Ze 86 J J J J (Ze 87 J J J J (Ze 88 J J J J (Ze 89 J J J J (Ze 90 J J J J (Ze 91 J J J J ?_)))))
       refine Ze 92 J J J J (Zk 93 J J (Zm J J J ⟨J, J⟩) ?_)
       show BoolQ _ _ _ _ _ _
       refine Ui J ?_ by5 by3
       first | (simp_all; done) | (simp_all; omega) | grind
     ·skip
      refine Ze 63 J J J J (Ze 64 J J J J (Ze 65 J J J J (Zk 66 J J (Zm J J J ⟨J, J⟩) ?_)))
      refine Zk 67 J J (Zd J J ⟨J, J⟩) ?_
      refine Ze 68 J J J J (Ze 69 J J J J (Ze 70 J J J J (Ze 71 J J J J (Ze 72 J J J J (Ze 73 J J J J ?_)))))
      refine Ze 74 J J J J (Ze 75 J J J J (Ze 76 J J J J (Ze 77 J J J J (Zk 78 J J (Zm J J J ⟨J, J⟩) ?_))))
      refine Zk 79 J J (Zd J J ⟨J, J⟩) ?_
      refine Ze 80 J J J J (Ze 81 J J J J (Ze 82 J J J J (Ze 83 J J J J (Ze 84 J J J J (Ze 85 J J J J ?_)))))
      refine Ze 86 J J J J (Ze 87 J J J J (Ze 88 J J J J (Ze 89 J J J J (Ze 90 J J J J (Ze 91 J J J J ?_)))))
      refine Ze 92 J J J J (Zk 93 J J (Zm J J J ⟨J, J⟩) ?_)
      show BoolQ _ _ _ _ _ _
      refine Ui J ?_ by5 by3
      first | (simp_all; done) | (simp_all; omega) | grind
    ·skip
     refine Ze 57 J J J J (Ze 58 J J J J (Ze 59 J J J J (Ze 60 J J J J (Zk 61 J J (Zm J J J ⟨J, J⟩) ?_))))
     refine Zk 62 J J (Zd J J ⟨J, J⟩) ?_
     refine Ze 63 J J J J (Ze 64 J J J J (Ze 65 J J J J (Zk 66 J J (Zm J J J ⟨J, J⟩) ?_)))
     refine Zk 67 J J (Zd J J ⟨J, J⟩) ?_
     refine Ze 68 J J J J (Ze 69 J J J J (Ze 70 J J J J (Ze 71 J J J J (Ze 72 J J J J (Ze 73 J J J J ?_)))))
     refine Ze 74 J J J J (Ze 75 J J J J (Ze 76 J J J J (Ze 77 J J J J (Zk 78 J J (Zm J J J ⟨J, J⟩) ?_))))
     refine Zk 79 J J (Zd J J ⟨J, J⟩) ?_
     refine Ze 80 J J J J (Ze 81 J J J J (Ze 82 J J J J (Ze 83 J J J J (Ze 84 J J J J (Ze 85 J J J J ?_)))))
     refine Ze 86 J J J J (Ze 87 J J J J (Ze 88 J J J J (Ze 89 J J J J (Ze 90 J J J J (Ze 91 J J J J ?_)))))
     refine Ze 92 J J J J (Zk 93 J J (Zm J J J ⟨J, J⟩) ?_)
     show BoolQ _ _ _ _ _ _
     refine Ui J ?_ by5 by3
     first | (simp_all; done) | (simp_all; omega) | grind
   intro c93 h93
   refine Zb ?_
   rcases Zi h93 with ⟨rfl, g93⟩ | ⟨rfl, g93⟩
   ·exact absurd hk g93
   ·exact Zu J (Zg (Zc (Za 8 J J J (Zf J J (Vx (Zb (Ya (Yf J J (Ue _) (Vz _) ⟨⟨false, by simp, J⟩, J⟩))))))))
 ·exact absurd g14 (by decide)
set_option maxHeartbeats 4000000 in
set_option maxRecDepth 100000 in
theorem Holds2_go (v : En) (gs : List Pr) (i : Nat) (c : ByteArray) (j : Nat) (z : Cl) (hj : classI v c = j) (hz : v.cl[j]? = some z) (x : Pf) (p : Pr) (hs : z.su[i]? = some p.c) (q : Prop) (HX : BCall Tryz.prog 14 [.agg v.cells, .seq 5 (Pr.cellss gs), .agg x.cells, .agg (Pr.mk c p.t).cells] q) : BCall Tryz.prog 14 [.agg v.cells, .seq 5 (Pr.cellss gs), .agg (Pf.mk 2 i c [x]).cells, .agg p.cells] q := by
 have H := tClass_c v c
 rw [hj, show decide ((0 : Int) ≤ (j : Int)) = true from decide_eq_true (by omega), show max (j : Int) 0 = j by omega] at H
 clear hj
 have hcz := Cl.cellss_get hz
 have hcs := strs_get hs
 have hjl := Vf hz
 have hsl := Vf hs
 obtain ⟨pc, ⟨pk, ps, pn, pl⟩⟩ := p
 obtain ⟨da, cl, ins⟩ := v
 have hcl := Cl.cellss_len cl
 obtain ⟨ys, yv, ysu, yms, yds, yp⟩ := z
 have hls := Xw ysu
 obtain ⟨xk, xn, xc, xl⟩ := x
 simp only [En.cells, Pf.cells, Pf.cellss, Pr.cells, Ty.cells, Cl.cells, Cl.su, En.cl, Pr.c, Pr.t] at *
 refine Zv Tryz.func14 J (by kernel_rfl) J (Uk J) ?_
 refine Ye (Zg (Zc (Za 4 J J J (Yj (cs' := [_, _, _]) J J J J (Za 5 J J J (Yj (cs' := [_]) J J J J (Za 6 J J J (Yj (cs' := [_, _, _, _]) J J J J (Za 7 J J J (Yj (cs' := [_, _, _, _, _]) J J J J ?_))))))))))
 refine Za 8 J J J (Zf J J (Vx (Zb (Zg (Zg (Zc (Za 11 J J J (Zj J Wp J J (Za 12 J J J (Zn J Yz J J (Vx (Zb (Zz (Zg (Zc (Za 14 J J J (Yk J J J ?_))))))))))))))))); intro c14 h14
 refine Za 13 J J J (Zf J J (Vx (Zb ?_)))
 rcases Zi h14 with ⟨rfl, g14⟩ | ⟨rfl, g14⟩
 ·refine Zq J (Zg (Zc (Za 46 J J J (Yk J J J ?_)))); intro c46 h46
  refine Za 45 J J J (Zf J J (Vx (Zb ?_)))
  rcases Zi h46 with ⟨rfl, g46⟩ | ⟨rfl, g46⟩
  ·exact absurd J g46
  ·refine Zu J (Zg (Zc (Za 48 J J J (Yb (cs' := [_, _, _]) J Wb J J J (Za 49 J J J (Zj J tf_30_2 J J (Za 50 J J J (Zn J Xb J J (Za 51 J J J (Yn (xs := [.tmp 48, .tmp 50]) J J (H) by1 ?_))))))))))
   refine Za 47 J J J (Zd J J (Za 52 J J J (Xa J J J (Za 53 J J J (Xa J J J (Za 9 J J J (Zf J J (Za 10 J J J (Zf J J (Vx (Zb (Zg (Zg ?_)))))))))))))
   refine Wk 93 (False) Wi J ?_ _ _ J ?_
   ·skip
    refine Zk 54 J J (Zd J J ⟨J, J⟩) ?_
    refine Xn 55 J J (fun _ q => Wf J J q) ?_; intro c55 h55
    try replace h55 := nott h55 h53
    refine Zk 56 J J (Zd J J ⟨J, J⟩) ?_
    rcases Zi h55 with ⟨rfl, g55⟩ | ⟨rfl, g55⟩
    ·skip
     refine Zs 57 J J J J (Zj J Vj J J ⟨J, J⟩) ?_
     refine Zs 58 J J J J (Zn J ta_28 J J ⟨J, J⟩) ?_
     refine Zs 59 J J J J (Yv J tu_28 J (.seq _ _) (fun _ => ⟨J, J⟩)) ?_
     refine Yy 60 J J J J (fun _ q => Xp J J J q) ?_; intro c60 h60
     refine Zk 61 J J (Zm J J J ⟨J, J⟩) ?_
     refine Zk 62 J J (Zd J J ⟨J, J⟩) ?_
     rcases Zi h60 with ⟨rfl, g60⟩ | ⟨rfl, g60⟩
     ·skip
      refine Zs 63 J J J J (Zj J Xu J J ⟨J, J⟩) ?_
      refine Zs 64 J J J J (Zn J Yz J J ⟨J, J⟩) ?_
      refine Yy 65 J J J J (fun _ q => Ys J J J q) ?_; intro c65 h65
      refine Zk 66 J J (Zm J J J ⟨J, J⟩) ?_
      refine Zk 67 J J (Zd J J ⟨J, J⟩) ?_
      rcases Zi h65 with ⟨rfl, g65⟩ | ⟨rfl, g65⟩
      ·skip
       refine Zs 68 J J J J (Zj J Xu J J ⟨J, J⟩) ?_
       refine Zs 69 J J J J (Zn J Yz J J ⟨J, J⟩) ?_
       refine Zs 70 J J J J (Zj J Wl J J ⟨J, J⟩) ?_
       refine Zs 71 J J J J (Zn J Vo J J ⟨J, J⟩) ?_
       refine Zs 72 J J J J (Zd J J ⟨J, J⟩) ?_
       refine Zs 73 J J J J (Yd J te_35 J (.seq _ _) J J (by first | exact hcz | exact hcs) ⟨J, J⟩) ?_
       refine Zs 74 J J J J (Zj J tf_77_2 J J ⟨J, J⟩) ?_
       refine Zs 75 J J J J (Zn J ta_68 J J ⟨J, J⟩) ?_
       refine Zs 76 J J J J (Yv J tu_68 J (.seq _ _) (fun _ => ⟨J, J⟩)) ?_
       refine Yy 77 J J J J (fun _ q => Xx J J J q) ?_; intro c77 h77
       refine Zk 78 J J (Zm J J J ⟨J, J⟩) ?_
       refine Zk 79 J J (Zd J J ⟨J, J⟩) ?_
       rcases Zi h77 with ⟨rfl, g77⟩ | ⟨rfl, g77⟩
       ·skip
        refine Zs 80 J J J J (Zj J Wl J J ⟨J, J⟩) ?_
        refine Zs 81 J J J J (Zn J Vo J J ⟨J, J⟩) ?_
        refine Zs 82 J J J J (Zd J J ⟨J, J⟩) ?_
        refine Zs 83 J J J J (Yd J te_35 J (.seq _ _) J J (by first | exact hcz | exact hcs) ⟨J, J⟩) ?_
        refine Zs 84 J J J J (Zj J tf_77_2 J J ⟨J, J⟩) ?_
        refine Zs 85 J J J J (Zn J ta_68 J J ⟨J, J⟩) ?_
        refine Zs 86 J J J J (Zj J Xu J J ⟨J, J⟩) ?_
        refine Zs 87 J J J J (Zn J Yz J J ⟨J, J⟩) ?_
        refine Zs 88 J J J J (Yd J te_68 J (.seq _ _) J J (by first | exact hcz | exact hcs) ⟨J, J⟩) ?_
        refine Zs 89 J J J J (Zn J Xb J J ⟨J, J⟩) ?_
        refine Zs 90 J J J J (Zj J Wu J J ⟨J, J⟩) ?_
        refine Zs 91 J J J J (Zn J Xb J J ⟨J, J⟩) ?_
        refine Yy 92 J J J J (fun _ q => op_sneq J J J q) ?_; intro c92 h92
        refine Zk 93 J J (Zm J J J ⟨J, J⟩) ?_
        show BoolQ _ _ _ _ _ _
        refine Ui J ?_ by5 by3
        first | (simp_all; done) | (simp_all; omega) | grind
       ·skip
        refine Ze 80 J J J J (Ze 81 J J J J (Ze 82 J J J J (Ze 83 J J J J (Ze 84 J J J J (Ze 85 J J J J ?_)))))
        refine Ze 86 J J J J (Ze 87 J J J J (Ze 88 J J J J (Ze 89 J J J J (Ze 90 J J J J (Ze 91 J J J J ?_)))))
        refine Ze 92 J J J J (Zk 93 J J (Zm J J J ⟨J, J⟩) ?_)
        show BoolQ _ _ _ _ _ _
        refine Ui J ?_ by5 by3
        first | (simp_all; done) | (simp_all; omega) | grind
      ·skip
       refine Ze 68 J J J J (Ze 69 J J J J (Ze 70 J J J J (Ze 71 J J J J (Ze 72 J J J J (Ze 73 J J J J ?_)))))
       refine Ze 74 J J J J (Ze 75 J J J J (Ze 76 J J J J (Ze 77 J J J J (Zk 78 J J (Zm J J J ⟨J, J⟩) ?_))))
       refine Zk 79 J J (Zd J J ⟨J, J⟩) ?_
       refine Ze 80 J J J J (Ze 81 J J J J (Ze 82 J J J J (Ze 83 J J J J (Ze 84 J J J J (Ze 85 J J J J ?_)))))
       refine Ze 86 J J J J (Ze 87 J J J J (Ze 88 J J J J (Ze 89 J J J J (Ze 90 J J J J (Ze 91 J J J J ?_)))))
       refine Ze 92 J J J J (Zk 93 J J (Zm J J J ⟨J, J⟩) ?_)
       show BoolQ _ _ _ _ _ _
       refine Ui J ?_ by5 by3
       first | (simp_all; done) | (simp_all; omega) | grind
     ·skip
      refine Ze 63 J J J J (Ze 64 J J J J (Ze 65 J J J J (Zk 66 J J (Zm J J J ⟨J, J⟩) ?_)))
      refine Zk 67 J J (Zd J J ⟨J, J⟩) ?_
      refine Ze 68 J J J J (Ze 69 J J J J (Ze 70 J J J J (Ze 71 J J J J (Ze 72 J J J J (Ze 73 J J J J ?_)))))
      refine Ze 74 J J J J (Ze 75 J J J J (Ze 76 J J J J (Ze 77 J J J J (Zk 78 J J (Zm J J J ⟨J, J⟩) ?_))))
      refine Zk 79 J J (Zd J J ⟨J, J⟩) ?_
      refine Ze 80 J J J J (Ze 81 J J J J (Ze 82 J J J J (Ze 83 J J J J (Ze 84 J J J J (Ze 85 J J J J ?_)))))
      refine Ze 86 J J J J (Ze 87 J J J J (Ze 88 J J J J (Ze 89 J J J J (Ze 90 J J J J (Ze 91 J J J J ?_)))))
      refine Ze 92 J J J J (Zk 93 J J (Zm J J J ⟨J, J⟩) ?_)
      show BoolQ _ _ _ _ _ _
      refine Ui J ?_ by5 by3
      first | (simp_all; done) | (simp_all; omega) | grind
    ·skip
     refine Ze 57 J J J J (Ze 58 J J J J (Ze 59 J J J J (Ze 60 J J J J (Zk 61 J J (Zm J J J ⟨J, J⟩) ?_))))
     refine Zk 62 J J (Zd J J ⟨J, J⟩) ?_
     refine Ze 63 J J J J (Ze 64 J J J J (Ze 65 J J J J (Zk 66 J J (Zm J J J ⟨J, J⟩) ?_)))
     refine Zk 67 J J (Zd J J ⟨J, J⟩) ?_
     refine Ze 68 J J J J (Ze 69 J J J J (Ze 70 J J J J (Ze 71 J J J J (Ze 72 J J J J (Ze 73 J J J J ?_)))))
     refine Ze 74 J J J J (Ze 75 J J J J (Ze 76 J J J J (Ze 77 J J J J (Zk 78 J J (Zm J J J ⟨J, J⟩) ?_))))
     refine Zk 79 J J (Zd J J ⟨J, J⟩) ?_
     refine Ze 80 J J J J (Ze 81 J J J J (Ze 82 J J J J (Ze 83 J J J J (Ze 84 J J J J (Ze 85 J J J J ?_)))))
     refine Ze 86 J J J J (Ze 87 J J J J (Ze 88 J J J J (Ze 89 J J J J (Ze 90 J J J J (Ze 91 J J J J ?_)))))
     refine Ze 92 J J J J (Zk 93 J J (Zm J J J ⟨J, J⟩) ?_)
     show BoolQ _ _ _ _ _ _
     refine Ui J ?_ by5 by3
     first | (simp_all; done) | (simp_all; omega) | grind
   intro c93 h93
   refine Zb ?_
   rcases Zi h93 with ⟨rfl, g93⟩ | ⟨rfl, g93⟩
   ·refine Zq J (Zw (Zb (Zg (Vk Wi J (Zk 94 J J (Yb (cs' := [_, _, _]) J Wb J J J ⟨J, J⟩) ?_)))))
    refine Zk 95 J J (Zn J ta_22 J J ⟨J, J⟩) ?_
    refine Zk 96 J J (Zj J Vj J J ⟨J, J⟩) ?_
    refine Zk 97 J J (Zn J ta_28 J J ⟨J, J⟩) ?_
    refine Zk 98 J J (Yd J te_28 J (.seq _ _) J J (J) ⟨J, J⟩) ?_
    refine Zk 99 J J (Yb (cs' := [_, _, _, _]) J Vm J J J ⟨J, J⟩) ?_
    refine Zk 100 J J (Zj J tf_30_2 J J ⟨J, J⟩) ?_
    refine Zk 101 J J (Zn J Xb J J ⟨J, J⟩) ?_
    refine Zk 102 J J (Zj J Wa J J ⟨J, J⟩) ?_
    refine Zk 103 J J (Yb (cs' := [_, _, _, _]) J Xt J J J ⟨J, J⟩) ?_
    refine Zk 104 J J (Yo (ns := [0, 1]) (xs := [.tmp 101, .tmp 103]) J tz_27 J tfl_27 J J J J ⟨J, J⟩) ?_
    refine Xn 105 J J (fun _ q => Yg (xs := [.tmp 94, .tmp 95, .tmp 99, .tmp 104]) J J (HX) by1 q) ?_; intro c105 h105
    refine Zk 8 J J (Zf J J ⟨J, J⟩) ?_
    show AGo _ _ _ _ _ _ _
    exact Zb (Ya (Yf J J (Ue _) (Vz _) ⟨⟨_, h105, J⟩, J⟩))
   ·exact False.elim g93
 ·exact absurd g14 (by decide)
theorem bsame {f : FuncId} {vs : List AV} {p q : Prop} (h : BCall Tryz.prog f vs p) (e : p ↔ q) : BCall Tryz.prog f vs q := by rw [← propext e]; exact h
set_option maxHeartbeats 4000000 in
set_option maxRecDepth 100000 in
theorem Holds3_out (v : En) (gs : List Pr) (n : Int) (c : ByteArray) (hn : n < 0 ∨ v.ins.length ≤ n) (ks : List Pf) (p : Pr) : BCall Tryz.prog 14 [.agg v.cells, .seq 5 (Pr.cellss gs), .agg (Pf.mk 3 n c ks).cells, .agg p.cells] False := by
 obtain ⟨pc, ⟨pk, ps, pn, pl⟩⟩ := p
 obtain ⟨da, cl, ins⟩ := v
 have hil := In.cellss_len ins
 simp only [En.cells, Pf.cells, Pr.cells, Ty.cells, En.ins] at *
 refine Zv Tryz.func14 J (by kernel_rfl) J (Uk J) ?_
 refine Ye (Zg (Zc (Za 4 J J J (Yj (cs' := [_, _, _]) J J J J (Za 5 J J J (Yj (cs' := [_]) J J J J (Za 6 J J J (Yj (cs' := [_, _, _, _]) J J J J (Za 7 J J J (Yj (cs' := [_, _, _, _, _]) J J J J ?_))))))))))
 refine Za 8 J J J (Zf J J (Vx (Zb (Zg (Zg (Zc (Za 11 J J J (Zj J Wp J J (Za 12 J J J (Zn J Yz J J (Vx (Zb (Zz (Zg (Zc (Za 14 J J J (Yk J J J ?_))))))))))))))))); intro c14 h14
 refine Za 13 J J J (Zf J J (Vx (Zb ?_)))
 rcases Zi h14 with ⟨rfl, g14⟩ | ⟨rfl, g14⟩
 ·refine Zq J (Zg (Zc (Za 46 J J J (Yk J J J ?_)))); intro c46 h46
  refine Za 45 J J J (Zf J J (Vx (Zb ?_)))
  rcases Zi h46 with ⟨rfl, g46⟩ | ⟨rfl, g46⟩
  ·refine Zq J (Zg (Zc (Za 107 J J J (Yk J J J ?_)))); intro c107 h107
   refine Za 106 J J J (Zf J J (Vx (Zb ?_)))
   rcases Zi h107 with ⟨rfl, g107⟩ | ⟨rfl, g107⟩
   ·exact absurd J g107
   ·refine Zu J (Zg (Zg (Wk 171 (True) Wi J ?_ _ _ J ?_)))
    ·skip
     refine Zk 108 J J (Zj J tf_30_2 J J ⟨J, J⟩) ?_
     refine Zk 109 J J (Zn J Xb J J ⟨J, J⟩) ?_
     refine Xn 110 J J (fun _ q => op_sneq J J J q) ?_; intro c110 h110
     refine Zk 111 J J (Zd J J ⟨J, J⟩) ?_
     rcases Zi h110 with ⟨rfl, g110⟩ | ⟨rfl, g110⟩
     ·skip
      refine Zs 112 J J J J (Zj J Xu J J ⟨J, J⟩) ?_
      refine Zs 113 J J J J (Zn J Yz J J ⟨J, J⟩) ?_
      refine Yy 114 J J J J (fun _ q => Ys J J J q) ?_; intro c114 h114
      refine Zk 115 J J (Zm J J J ⟨J, J⟩) ?_
      refine Zk 116 J J (Zd J J ⟨J, J⟩) ?_
      rcases Zi h114 with ⟨rfl, g114⟩ | ⟨rfl, g114⟩
      ·skip
       refine Zs 117 J J J J (Zj J Xu J J ⟨J, J⟩) ?_
       refine Zs 118 J J J J (Zn J Yz J J ⟨J, J⟩) ?_
       refine Zs 119 J J J J (Zj J Wn J J ⟨J, J⟩) ?_
       refine Zs 120 J J J J (Zn J Vq J J ⟨J, J⟩) ?_
       refine Zs 121 J J J J (Yv J tu_36 J (.seq _ _) (fun _ => ⟨J, J⟩)) ?_
       refine Yy 122 J J J J (fun _ q => Xx J J J q) ?_; intro c122 h122
       refine Zk 123 J J (Zm J J J ⟨J, J⟩) ?_
       refine Zk 124 J J (Zd J J ⟨J, J⟩) ?_
       rcases Zi h122 with ⟨rfl, g122⟩ | ⟨rfl, g122⟩
       ·omega
       ·skip
        refine Ze 125 J J J J (Ze 126 J J J J (Ze 127 J J J J (Ze 128 J J J J (Ze 129 J J J J (Ze 130 J J J J ?_)))))
        refine Ze 131 J J J J (Ze 132 J J J J (Ze 133 J J J J (Ze 134 J J J J (Zk 135 J J (Zm J J J ⟨J, J⟩) ?_))))
        refine Zk 136 J J (Zd J J ⟨J, J⟩) ?_
        refine Ze 137 J J J J (Ze 138 J J J J (Ze 139 J J J J (Ze 140 J J J J (Ze 141 J J J J (Ze 142 J J J J ?_)))))
        refine Ze 143 J J J J (Ze 144 J J J J (Ze 145 J J J J (Ze 146 J J J J (Ze 147 J J J J (Ze 148 J J J J ?_)))))
        refine Zk 149 J J (Zm J J J ⟨J, J⟩) ?_
        refine Zk 150 J J (Zd J J ⟨J, J⟩) ?_
        refine Ze 151 J J J J (Ze 152 J J J J (Ze 153 J J J J (Ze 154 J J J J (Zk 155 J J (Zm J J J ⟨J, J⟩) ?_))))
        refine Zk 156 J J (Zd J J ⟨J, J⟩) ?_
        refine Ze 157 J J J J (Ze 158 J J J J (Ze 159 J J J J (Ze 160 J J J J (Ze 161 J J J J (Ze 162 J J J J ?_)))))
        refine Ze 163 J J J J (Ze 164 J J J J (Ze 165 J J J J (Ze 166 J J J J (Ze 167 J J J J (Ze 168 J J J J ?_)))))
        refine Ze 169 J J J J (Ze 170 J J J J (Zk 171 J J (Zm J J J ⟨J, J⟩) ?_))
        show BoolQ _ _ _ _ _ _
        refine Ui J ?_ by5 by3
        first | (simp_all; done) | grind
      ·skip
       refine Ze 117 J J J J (Ze 118 J J J J (Ze 119 J J J J (Ze 120 J J J J (Ze 121 J J J J (Ze 122 J J J J ?_)))))
       refine Zk 123 J J (Zm J J J ⟨J, J⟩) ?_
       refine Zk 124 J J (Zd J J ⟨J, J⟩) ?_
       refine Ze 125 J J J J (Ze 126 J J J J (Ze 127 J J J J (Ze 128 J J J J (Ze 129 J J J J (Ze 130 J J J J ?_)))))
       refine Ze 131 J J J J (Ze 132 J J J J (Ze 133 J J J J (Ze 134 J J J J (Zk 135 J J (Zm J J J ⟨J, J⟩) ?_))))
       refine Zk 136 J J (Zd J J ⟨J, J⟩) ?_
       refine Ze 137 J J J J (Ze 138 J J J J (Ze 139 J J J J (Ze 140 J J J J (Ze 141 J J J J (Ze 142 J J J J ?_)))))
       refine Ze 143 J J J J (Ze 144 J J J J (Ze 145 J J J J (Ze 146 J J J J (Ze 147 J J J J (Ze 148 J J J J ?_)))))
       refine Zk 149 J J (Zm J J J ⟨J, J⟩) ?_
       refine Zk 150 J J (Zd J J ⟨J, J⟩) ?_
       refine Ze 151 J J J J (Ze 152 J J J J (Ze 153 J J J J (Ze 154 J J J J (Zk 155 J J (Zm J J J ⟨J, J⟩) ?_))))
       refine Zk 156 J J (Zd J J ⟨J, J⟩) ?_
       refine Ze 157 J J J J (Ze 158 J J J J (Ze 159 J J J J (Ze 160 J J J J (Ze 161 J J J J (Ze 162 J J J J ?_)))))
       refine Ze 163 J J J J (Ze 164 J J J J (Ze 165 J J J J (Ze 166 J J J J (Ze 167 J J J J (Ze 168 J J J J ?_)))))
       refine Ze 169 J J J J (Ze 170 J J J J (Zk 171 J J (Zm J J J ⟨J, J⟩) ?_))
       show BoolQ _ _ _ _ _ _
       refine Ui J ?_ by5 by3
       first | (simp_all; done) | grind
     ·skip
      refine Ze 112 J J J J (Ze 113 J J J J (Ze 114 J J J J (Zk 115 J J (Zm J J J ⟨J, J⟩) ?_)))
      refine Zk 116 J J (Zd J J ⟨J, J⟩) ?_
      refine Ze 117 J J J J (Ze 118 J J J J (Ze 119 J J J J (Ze 120 J J J J (Ze 121 J J J J (Ze 122 J J J J ?_)))))
      refine Zk 123 J J (Zm J J J ⟨J, J⟩) ?_
      refine Zk 124 J J (Zd J J ⟨J, J⟩) ?_
      refine Ze 125 J J J J (Ze 126 J J J J (Ze 127 J J J J (Ze 128 J J J J (Ze 129 J J J J (Ze 130 J J J J ?_)))))
      refine Ze 131 J J J J (Ze 132 J J J J (Ze 133 J J J J (Ze 134 J J J J (Zk 135 J J (Zm J J J ⟨J, J⟩) ?_))))
      refine Zk 136 J J (Zd J J ⟨J, J⟩) ?_
      refine Ze 137 J J J J (Ze 138 J J J J (Ze 139 J J J J (Ze 140 J J J J (Ze 141 J J J J (Ze 142 J J J J ?_)))))
      refine Ze 143 J J J J (Ze 144 J J J J (Ze 145 J J J J (Ze 146 J J J J (Ze 147 J J J J (Ze 148 J J J J ?_)))))
      refine Zk 149 J J (Zm J J J ⟨J, J⟩) ?_
      refine Zk 150 J J (Zd J J ⟨J, J⟩) ?_
      refine Ze 151 J J J J (Ze 152 J J J J (Ze 153 J J J J (Ze 154 J J J J (Zk 155 J J (Zm J J J ⟨J, J⟩) ?_))))
      refine Zk 156 J J (Zd J J ⟨J, J⟩) ?_
      refine Ze 157 J J J J (Ze 158 J J J J (Ze 159 J J J J (Ze 160 J J J J (Ze 161 J J J J (Ze 162 J J J J ?_)))))
      refine Ze 163 J J J J (Ze 164 J J J J (Ze 165 J J J J (Ze 166 J J J J (Ze 167 J J J J (Ze 168 J J J J ?_)))))
      refine Ze 169 J J J J (Ze 170 J J J J (Zk 171 J J (Zm J J J ⟨J, J⟩) ?_))
      show BoolQ _ _ _ _ _ _
      refine Ui J ?_ by5 by3
      first | (simp_all; done) | grind
    intro c171 h171
    refine Zb ?_
    rcases Zi h171 with ⟨rfl, g171⟩ | ⟨rfl, g171⟩
    ·exact absurd trivial g171
    ·exact Zu J (Zg (Zc (Za 8 J J J (Zf J J (Vx (Zb (Ya (Yf J J (Ue _) (Vz _) ⟨⟨false, by simp, J⟩, J⟩))))))))
  ·exact absurd g46 (by decide)
 ·exact absurd g14 (by decide)
set_option maxHeartbeats 4000000 in
set_option maxRecDepth 100000 in
theorem Holds3_no (v : En) (gs : List Pr) (i : Nat) (c : ByteArray) (y : In) (hy : v.ins[i]? = some y) (ks : List Pf) (p : Pr) (hk : ¬ (c = kE ∧ fitsP y p)) : BCall Tryz.prog 14 [.agg v.cells, .seq 5 (Pr.cellss gs), .agg (Pf.mk 3 i c ks).cells, .agg p.cells] False := by
 have hcy := In.cellss_get hy
 have hyl := Vf hy
 obtain ⟨pc, ⟨pk, ps, pn, pl⟩⟩ := p
 obtain ⟨da, cl, ins⟩ := v
 have hil := In.cellss_len ins
 obtain ⟨yc, ⟨yk, ys, yn, yl⟩, ycx, ybs, yp⟩ := y
 have hl1 := Ty.cellss_len yl
 have hl2 := Ty.cellss_len pl
 unfold fitsP at hk
 simp only [En.cells, Pf.cells, Pr.cells, Ty.cells, In.cells, En.ins, In.c, In.hd, Pr.c, Pr.t, Ty.kind, Ty.name, Ty.kids, List.cons_append, List.nil_append] at *
 refine Zv Tryz.func14 J (by kernel_rfl) J (Uk J) ?_
 refine Ye (Zg (Zc (Za 4 J J J (Yj (cs' := [_, _, _]) J J J J (Za 5 J J J (Yj (cs' := [_]) J J J J (Za 6 J J J (Yj (cs' := [_, _, _, _]) J J J J (Za 7 J J J (Yj (cs' := [_, _, _, _, _]) J J J J ?_))))))))))
 refine Za 8 J J J (Zf J J (Vx (Zb (Zg (Zg (Zc (Za 11 J J J (Zj J Wp J J (Za 12 J J J (Zn J Yz J J (Vx (Zb (Zz (Zg (Zc (Za 14 J J J (Yk J J J ?_))))))))))))))))); intro c14 h14
 refine Za 13 J J J (Zf J J (Vx (Zb ?_)))
 rcases Zi h14 with ⟨rfl, g14⟩ | ⟨rfl, g14⟩
 ·refine Zq J (Zg (Zc (Za 46 J J J (Yk J J J ?_)))); intro c46 h46
  refine Za 45 J J J (Zf J J (Vx (Zb ?_)))
  rcases Zi h46 with ⟨rfl, g46⟩ | ⟨rfl, g46⟩
  ·refine Zq J (Zg (Zc (Za 107 J J J (Yk J J J ?_)))); intro c107 h107
   refine Za 106 J J J (Zf J J (Vx (Zb ?_)))
   rcases Zi h107 with ⟨rfl, g107⟩ | ⟨rfl, g107⟩
   ·exact absurd J g107
   ·refine Zu J (Zg (Zg (Wk 171 (¬ (c = kE ∧ yc = pc ∧ pk = 3 ∧ ys = ps ∧ yl.length = pl.length)) Wi J ?_ _ _ J ?_)))
    ·skip
     refine Zk 108 J J (Zj J tf_30_2 J J ⟨J, J⟩) ?_
     refine Zk 109 J J (Zn J Xb J J ⟨J, J⟩) ?_
     refine Xn 110 J J (fun _ q => op_sneq J J J q) ?_; intro c110 h110
     refine Zk 111 J J (Zd J J ⟨J, J⟩) ?_
     rcases Zi h110 with ⟨rfl, g110⟩ | ⟨rfl, g110⟩
     ·skip
      refine Zs 112 J J J J (Zj J Xu J J ⟨J, J⟩) ?_
      refine Zs 113 J J J J (Zn J Yz J J ⟨J, J⟩) ?_
      refine Yy 114 J J J J (fun _ q => Ys J J J q) ?_; intro c114 h114
      refine Zk 115 J J (Zm J J J ⟨J, J⟩) ?_
      refine Zk 116 J J (Zd J J ⟨J, J⟩) ?_
      rcases Zi h114 with ⟨rfl, g114⟩ | ⟨rfl, g114⟩
      ·skip
       refine Zs 117 J J J J (Zj J Xu J J ⟨J, J⟩) ?_
       refine Zs 118 J J J J (Zn J Yz J J ⟨J, J⟩) ?_
       refine Zs 119 J J J J (Zj J Wn J J ⟨J, J⟩) ?_
       refine Zs 120 J J J J (Zn J Vq J J ⟨J, J⟩) ?_
       refine Zs 121 J J J J (Yv J tu_36 J (.seq _ _) (fun _ => ⟨J, J⟩)) ?_
       refine Yy 122 J J J J (fun _ q => Xx J J J q) ?_; intro c122 h122
       refine Zk 123 J J (Zm J J J ⟨J, J⟩) ?_
       refine Zk 124 J J (Zd J J ⟨J, J⟩) ?_
       rcases Zi h122 with ⟨rfl, g122⟩ | ⟨rfl, g122⟩
       ·skip
        refine Zs 125 J J J J (Zj J Wn J J ⟨J, J⟩) ?_
        refine Zs 126 J J J J (Zn J Vq J J ⟨J, J⟩) ?_
        refine Zs 127 J J J J (Zj J Xu J J ⟨J, J⟩) ?_
        refine Zs 128 J J J J (Zn J Yz J J ⟨J, J⟩) ?_
        refine Zs 129 J J J J (Yd J te_36 J (.seq _ _) J J (hcy) ⟨J, J⟩) ?_
        refine Zs 130 J J J J (Zj J tf_73_0 J J ⟨J, J⟩) ?_
        refine Zs 131 J J J J (Zn J Xb J J ⟨J, J⟩) ?_
        refine Zs 132 J J J J (Zj J Wu J J ⟨J, J⟩) ?_
        refine Zs 133 J J J J (Zn J Xb J J ⟨J, J⟩) ?_
        refine Yy 134 J J J J (fun _ q => op_sneq J J J q) ?_; intro c134 h134
        refine Zk 135 J J (Zm J J J ⟨J, J⟩) ?_
        refine Zk 136 J J (Zd J J ⟨J, J⟩) ?_
        rcases Zi h134 with ⟨rfl, g134⟩ | ⟨rfl, g134⟩
        ·skip
         refine Zs 137 J J J J (Zj J Wn J J ⟨J, J⟩) ?_
         refine Zs 138 J J J J (Zn J Vq J J ⟨J, J⟩) ?_
         refine Zs 139 J J J J (Zj J Xu J J ⟨J, J⟩) ?_
         refine Zs 140 J J J J (Zn J Yz J J ⟨J, J⟩) ?_
         refine Zs 141 J J J J (Yd J te_36 J (.seq _ _) J J (hcy) ⟨J, J⟩) ?_
         refine Zs 142 J J J J (Zj J Wv J J ⟨J, J⟩) ?_
         refine Zs 143 J J J J (Zj J Wd J J ⟨J, J⟩) ?_
         refine Zs 144 J J J J (Zn J Xb J J ⟨J, J⟩) ?_
         refine Zs 145 J J J J (Zj J Wa J J ⟨J, J⟩) ?_
         refine Zs 146 J J J J (Zj J Wd J J ⟨J, J⟩) ?_
         refine Zs 147 J J J J (Zn J Xb J J ⟨J, J⟩) ?_
         refine Yy 148 J J J J (fun _ q => op_sneq J J J q) ?_; intro c148 h148
         refine Zk 149 J J (Zm J J J ⟨J, J⟩) ?_
         refine Zk 150 J J (Zd J J ⟨J, J⟩) ?_
         rcases Zi h148 with ⟨rfl, g148⟩ | ⟨rfl, g148⟩
         ·skip
          refine Zs 151 J J J J (Zj J Wa J J ⟨J, J⟩) ?_
          refine Zs 152 J J J J (Zj J Vt J J ⟨J, J⟩) ?_
          refine Zs 153 J J J J (Zn J Yz J J ⟨J, J⟩) ?_
          refine Yy 154 J J J J (fun _ q => Xp J J J q) ?_; intro c154 h154
          refine Zk 155 J J (Zm J J J ⟨J, J⟩) ?_
          refine Zk 156 J J (Zd J J ⟨J, J⟩) ?_
          rcases Zi h154 with ⟨rfl, g154⟩ | ⟨rfl, g154⟩
          ·skip
           refine Zs 157 J J J J (Zj J Wa J J ⟨J, J⟩) ?_
           refine Zs 158 J J J J (Zj J Xq J J ⟨J, J⟩) ?_
           refine Zs 159 J J J J (Zn J Wr J J ⟨J, J⟩) ?_
           refine Zs 160 J J J J (Yv J Vh J (.seq _ _) (fun _ => ⟨J, J⟩)) ?_
           refine Zs 161 J J J J (Zj J Wn J J ⟨J, J⟩) ?_
           refine Zs 162 J J J J (Zn J Vq J J ⟨J, J⟩) ?_
           refine Zs 163 J J J J (Zj J Xu J J ⟨J, J⟩) ?_
           refine Zs 164 J J J J (Zn J Yz J J ⟨J, J⟩) ?_
           refine Zs 165 J J J J (Yd J te_36 J (.seq _ _) J J (hcy) ⟨J, J⟩) ?_
           refine Zs 166 J J J J (Zj J Wv J J ⟨J, J⟩) ?_
           refine Zs 167 J J J J (Zj J Xq J J ⟨J, J⟩) ?_
           refine Zs 168 J J J J (Zn J Wr J J ⟨J, J⟩) ?_
           refine Zs 169 J J J J (Yv J Vh J (.seq _ _) (fun _ => ⟨J, J⟩)) ?_
           refine Yy 170 J J J J (fun _ q => Xp J J J q) ?_; intro c170 h170
           refine Zk 171 J J (Zm J J J ⟨J, J⟩) ?_
           show BoolQ _ _ _ _ _ _
           refine Ui J ?_ by5 by3
           first | (simp_all; done) | (simp_all; omega) | grind
          ·skip
           refine Ze 157 J J J J (Ze 158 J J J J (Ze 159 J J J J (Ze 160 J J J J (Ze 161 J J J J (Ze 162 J J J J ?_)))))
           refine Ze 163 J J J J (Ze 164 J J J J (Ze 165 J J J J (Ze 166 J J J J (Ze 167 J J J J (Ze 168 J J J J ?_)))))
           refine Ze 169 J J J J (Ze 170 J J J J (Zk 171 J J (Zm J J J ⟨J, J⟩) ?_))
           show BoolQ _ _ _ _ _ _
           refine Ui J ?_ by5 by3
           first | (simp_all; done) | (simp_all; omega) | grind
         ·skip
          refine Ze 151 J J J J (Ze 152 J J J J (Ze 153 J J J J (Ze 154 J J J J (Zk 155 J J (Zm J J J ⟨J, J⟩) ?_))))
          refine Zk 156 J J (Zd J J ⟨J, J⟩) ?_
          refine Ze 157 J J J J (Ze 158 J J J J (Ze 159 J J J J (Ze 160 J J J J (Ze 161 J J J J (Ze 162 J J J J ?_)))))
          refine Ze 163 J J J J (Ze 164 J J J J (Ze 165 J J J J (Ze 166 J J J J (Ze 167 J J J J (Ze 168 J J J J ?_)))))
          refine Ze 169 J J J J (Ze 170 J J J J (Zk 171 J J (Zm J J J ⟨J, J⟩) ?_))
          show BoolQ _ _ _ _ _ _
          refine Ui J ?_ by5 by3
          first | (simp_all; done) | (simp_all; omega) | grind
        ·skip
         refine Ze 137 J J J J (Ze 138 J J J J (Ze 139 J J J J (Ze 140 J J J J (Ze 141 J J J J (Ze 142 J J J J ?_)))))
         refine Ze 143 J J J J (Ze 144 J J J J (Ze 145 J J J J (Ze 146 J J J J (Ze 147 J J J J (Ze 148 J J J J ?_)))))
         refine Zk 149 J J (Zm J J J ⟨J, J⟩) ?_
         refine Zk 150 J J (Zd J J ⟨J, J⟩) ?_
         refine Ze 151 J J J J (Ze 152 J J J J (Ze 153 J J J J (Ze 154 J J J J (Zk 155 J J (Zm J J J ⟨J, J⟩) ?_))))
         refine Zk 156 J J (Zd J J ⟨J, J⟩) ?_
         refine Ze 157 J J J J (Ze 158 J J J J (Ze 159 J J J J (Ze 160 J J J J (Ze 161 J J J J (Ze 162 J J J J ?_)))))
         refine Ze 163 J J J J (Ze 164 J J J J (Ze 165 J J J J (Ze 166 J J J J (Ze 167 J J J J (Ze 168 J J J J ?_)))))
         refine Ze 169 J J J J (Ze 170 J J J J (Zk 171 J J (Zm J J J ⟨J, J⟩) ?_))
         show BoolQ _ _ _ _ _ _
         refine Ui J ?_ by5 by3
         first | (simp_all; done) | (simp_all; omega) | grind
       ·skip
        refine Ze 125 J J J J (Ze 126 J J J J (Ze 127 J J J J (Ze 128 J J J J (Ze 129 J J J J (Ze 130 J J J J ?_)))))
        refine Ze 131 J J J J (Ze 132 J J J J (Ze 133 J J J J (Ze 134 J J J J (Zk 135 J J (Zm J J J ⟨J, J⟩) ?_))))
        refine Zk 136 J J (Zd J J ⟨J, J⟩) ?_
        refine Ze 137 J J J J (Ze 138 J J J J (Ze 139 J J J J (Ze 140 J J J J (Ze 141 J J J J (Ze 142 J J J J ?_)))))
        refine Ze 143 J J J J (Ze 144 J J J J (Ze 145 J J J J (Ze 146 J J J J (Ze 147 J J J J (Ze 148 J J J J ?_)))))
        refine Zk 149 J J (Zm J J J ⟨J, J⟩) ?_
        refine Zk 150 J J (Zd J J ⟨J, J⟩) ?_
        refine Ze 151 J J J J (Ze 152 J J J J (Ze 153 J J J J (Ze 154 J J J J (Zk 155 J J (Zm J J J ⟨J, J⟩) ?_))))
        refine Zk 156 J J (Zd J J ⟨J, J⟩) ?_
        refine Ze 157 J J J J (Ze 158 J J J J (Ze 159 J J J J (Ze 160 J J J J (Ze 161 J J J J (Ze 162 J J J J ?_)))))
        refine Ze 163 J J J J (Ze 164 J J J J (Ze 165 J J J J (Ze 166 J J J J (Ze 167 J J J J (Ze 168 J J J J ?_)))))
        refine Ze 169 J J J J (Ze 170 J J J J (Zk 171 J J (Zm J J J ⟨J, J⟩) ?_))
        show BoolQ _ _ _ _ _ _
        refine Ui J ?_ by5 by3
        first | (simp_all; done) | (simp_all; omega) | grind
      ·skip
       refine Ze 117 J J J J (Ze 118 J J J J (Ze 119 J J J J (Ze 120 J J J J (Ze 121 J J J J (Ze 122 J J J J ?_)))))
       refine Zk 123 J J (Zm J J J ⟨J, J⟩) ?_
       refine Zk 124 J J (Zd J J ⟨J, J⟩) ?_
       refine Ze 125 J J J J (Ze 126 J J J J (Ze 127 J J J J (Ze 128 J J J J (Ze 129 J J J J (Ze 130 J J J J ?_)))))
       refine Ze 131 J J J J (Ze 132 J J J J (Ze 133 J J J J (Ze 134 J J J J (Zk 135 J J (Zm J J J ⟨J, J⟩) ?_))))
       refine Zk 136 J J (Zd J J ⟨J, J⟩) ?_
       refine Ze 137 J J J J (Ze 138 J J J J (Ze 139 J J J J (Ze 140 J J J J (Ze 141 J J J J (Ze 142 J J J J ?_)))))
       refine Ze 143 J J J J (Ze 144 J J J J (Ze 145 J J J J (Ze 146 J J J J (Ze 147 J J J J (Ze 148 J J J J ?_)))))
       refine Zk 149 J J (Zm J J J ⟨J, J⟩) ?_
       refine Zk 150 J J (Zd J J ⟨J, J⟩) ?_
       refine Ze 151 J J J J (Ze 152 J J J J (Ze 153 J J J J (Ze 154 J J J J (Zk 155 J J (Zm J J J ⟨J, J⟩) ?_))))
       refine Zk 156 J J (Zd J J ⟨J, J⟩) ?_
       refine Ze 157 J J J J (Ze 158 J J J J (Ze 159 J J J J (Ze 160 J J J J (Ze 161 J J J J (Ze 162 J J J J ?_)))))
       refine Ze 163 J J J J (Ze 164 J J J J (Ze 165 J J J J (Ze 166 J J J J (Ze 167 J J J J (Ze 168 J J J J ?_)))))
       refine Ze 169 J J J J (Ze 170 J J J J (Zk 171 J J (Zm J J J ⟨J, J⟩) ?_))
       show BoolQ _ _ _ _ _ _
       refine Ui J ?_ by5 by3
       first | (simp_all; done) | (simp_all; omega) | grind
     ·skip
      refine Ze 112 J J J J (Ze 113 J J J J (Ze 114 J J J J (Zk 115 J J (Zm J J J ⟨J, J⟩) ?_)))
      refine Zk 116 J J (Zd J J ⟨J, J⟩) ?_
      refine Ze 117 J J J J (Ze 118 J J J J (Ze 119 J J J J (Ze 120 J J J J (Ze 121 J J J J (Ze 122 J J J J ?_)))))
      refine Zk 123 J J (Zm J J J ⟨J, J⟩) ?_
      refine Zk 124 J J (Zd J J ⟨J, J⟩) ?_
      refine Ze 125 J J J J (Ze 126 J J J J (Ze 127 J J J J (Ze 128 J J J J (Ze 129 J J J J (Ze 130 J J J J ?_)))))
      refine Ze 131 J J J J (Ze 132 J J J J (Ze 133 J J J J (Ze 134 J J J J (Zk 135 J J (Zm J J J ⟨J, J⟩) ?_))))
      refine Zk 136 J J (Zd J J ⟨J, J⟩) ?_
      refine Ze 137 J J J J (Ze 138 J J J J (Ze 139 J J J J (Ze 140 J J J J (Ze 141 J J J J (Ze 142 J J J J ?_)))))
      refine Ze 143 J J J J (Ze 144 J J J J (Ze 145 J J J J (Ze 146 J J J J (Ze 147 J J J J (Ze 148 J J J J ?_)))))
      refine Zk 149 J J (Zm J J J ⟨J, J⟩) ?_
      refine Zk 150 J J (Zd J J ⟨J, J⟩) ?_
      refine Ze 151 J J J J (Ze 152 J J J J (Ze 153 J J J J (Ze 154 J J J J (Zk 155 J J (Zm J J J ⟨J, J⟩) ?_))))
      refine Zk 156 J J (Zd J J ⟨J, J⟩) ?_
      refine Ze 157 J J J J (Ze 158 J J J J (Ze 159 J J J J (Ze 160 J J J J (Ze 161 J J J J (Ze 162 J J J J ?_)))))
      refine Ze 163 J J J J (Ze 164 J J J J (Ze 165 J J J J (Ze 166 J J J J (Ze 167 J J J J (Ze 168 J J J J ?_)))))
      refine Ze 169 J J J J (Ze 170 J J J J (Zk 171 J J (Zm J J J ⟨J, J⟩) ?_))
      show BoolQ _ _ _ _ _ _
      refine Ui J ?_ by5 by3
      first | (simp_all; done) | (simp_all; omega) | grind
    intro c171 h171
    refine Zb ?_
    rcases Zi h171 with ⟨rfl, g171⟩ | ⟨rfl, g171⟩
    ·exact absurd hk g171
    ·exact Zu J (Zg (Zc (Za 8 J J J (Zf J J (Vx (Zb (Ya (Yf J J (Ue _) (Vz _) ⟨⟨false, by simp, J⟩, J⟩))))))))
  ·exact absurd g46 (by decide)
 ·exact absurd g14 (by decide)
set_option maxHeartbeats 4000000 in
set_option maxRecDepth 100000 in
theorem HoldsC_c (v : En) (gs : List Pr) (x : Pf) (q : Pr) (Q : Prop) (HX : BCall Tryz.prog 14 [.agg v.cells, .seq 5 (Pr.cellss gs), .agg x.cells, .agg q.cells] Q) : BCall Tryz.prog 42 ([] ++ [.agg x.cells, .agg q.cells] ++ [.cptr v.cells, .cptr [.seq 5 (Pr.cellss gs)]]) Q := by
 obtain ⟨qc, ⟨qk, qs, qn, ql⟩⟩ := q
 obtain ⟨da, cl, ins⟩ := v
 obtain ⟨xk, xn, xc, xl⟩ := x
 simp only [En.cells, Pf.cells, Pr.cells, Ty.cells, List.nil_append, List.cons_append] at *
 refine Zv Tryz.func42 J (by kernel_rfl) J (Uk J) ?_
 refine Ye (Zg (Zc (Za 4 J J J (Yj (cs' := [_, _, _, _]) J J J J (Za 5 J J J (Yj (cs' := [_, _, _, _, _]) J J J J (Za 6 J J J (Zf J J (Vx (Zb (Zg (Zc ?_))))))))))))
 refine Za 7 J J J (Yb (cs' := [_, _, _]) J Wb J J J (Za 8 J J J (Zn J ta_22 J J (Za 9 J J J (Yb (cs' := [_, _, _, _]) J Vm J J J (Za 10 J J J (Yb (cs' := [_, _, _, _, _]) J ta_27 J J J (Za 11 J J J (Yg (xs := [.tmp 7, .tmp 8, .tmp 9, .tmp 10]) J J (HX) by1 ?_))))))))); intro c11 h11
 exact Za 6 J J J (Zf J J (Vx (Zb (Ya (Yf J J (Ue _) by3 ⟨⟨_, h11, J⟩, J⟩)))))
set_option maxHeartbeats 4000000 in
set_option maxRecDepth 100000 in
theorem Holds3_go (v : En) (hv : EnG v) (gs : List Pr) (i : Nat) (y : In) (hy : v.ins[i]? = some y) (ks : List Pf) (p : Pr) (hk : fitsP y p) (hp : p.t.size ≤ 1000000) (HX : ∀ x ∈ ks, ∀ q ∈ needsR v i p.t, BCall Tryz.prog 14 [.agg v.cells, .seq 5 (Pr.cellss gs), .agg x.cells, .agg q.cells] (holdsP v gs x q)) : BCall Tryz.prog 14 [.agg v.cells, .seq 5 (Pr.cellss gs), .agg (Pf.mk 3 i kE ks).cells, .agg p.cells] (holdsL v gs ks (needsR v i p.t)) := by
 have HN := Needs_c v hv i p.t hp
 have HE := EqF_pf v gs 42 [.cptr v.cells, .cptr [.seq 5 (Pr.cellss gs)]] ks (needsR v i p.t) (fun x hx q hq => HoldsC_c v gs x q _ (HX x hx q hq))
 clear HX hv
 generalize holdsL v gs ks (needsR v i p.t) = Q at *
 generalize needsR v i p.t = l at *
 have hcy := In.cellss_get hy
 have hyl := Vf hy
 obtain ⟨pc, ⟨pk, ps, pn, pl⟩⟩ := p
 obtain ⟨da, cl, ins⟩ := v
 have hil := In.cellss_len ins
 obtain ⟨yc, ⟨yk, ys, yn, yl⟩, ycx, ybs, yp⟩ := y
 have hl1 := Ty.cellss_len yl
 have hl2 := Ty.cellss_len pl
 unfold fitsP at hk
 simp only [En.cells, Pf.cells, Pr.cells, Ty.cells, In.cells, En.ins, In.c, In.hd, Pr.c, Pr.t, Ty.kind, Ty.name, Ty.kids, List.cons_append, List.nil_append] at *
 refine Zv Tryz.func14 J (by kernel_rfl) J (Uk J) ?_
 refine Ye (Zg (Zc (Za 4 J J J (Yj (cs' := [_, _, _]) J J J J (Za 5 J J J (Yj (cs' := [_]) J J J J (Za 6 J J J (Yj (cs' := [_, _, _, _]) J J J J (Za 7 J J J (Yj (cs' := [_, _, _, _, _]) J J J J ?_))))))))))
 refine Za 8 J J J (Zf J J (Vx (Zb (Zg (Zg (Zc (Za 11 J J J (Zj J Wp J J (Za 12 J J J (Zn J Yz J J (Vx (Zb (Zz (Zg (Zc (Za 14 J J J (Yk J J J ?_))))))))))))))))); intro c14 h14
 refine Za 13 J J J (Zf J J (Vx (Zb ?_)))
 rcases Zi h14 with ⟨rfl, g14⟩ | ⟨rfl, g14⟩
 ·refine Zq J (Zg (Zc (Za 46 J J J (Yk J J J ?_)))); intro c46 h46
  refine Za 45 J J J (Zf J J (Vx (Zb ?_)))
  rcases Zi h46 with ⟨rfl, g46⟩ | ⟨rfl, g46⟩
  ·refine Zq J (Zg (Zc (Za 107 J J J (Yk J J J ?_)))); intro c107 h107
   refine Za 106 J J J (Zf J J (Vx (Zb ?_)))
   rcases Zi h107 with ⟨rfl, g107⟩ | ⟨rfl, g107⟩
   ·exact absurd J g107
   ·refine Zu J (Zg (Zg (Wk 171 (False) Wi J ?_ _ _ J ?_)))
    ·skip
     refine Zk 108 J J (Zj J tf_30_2 J J ⟨J, J⟩) ?_
     refine Zk 109 J J (Zn J Xb J J ⟨J, J⟩) ?_
     refine Xn 110 J J (fun _ q => op_sneq J J J q) ?_; intro c110 h110
     refine Zk 111 J J (Zd J J ⟨J, J⟩) ?_
     rcases Zi h110 with ⟨rfl, g110⟩ | ⟨rfl, g110⟩
     ·skip
      refine Zs 112 J J J J (Zj J Xu J J ⟨J, J⟩) ?_
      refine Zs 113 J J J J (Zn J Yz J J ⟨J, J⟩) ?_
      refine Yy 114 J J J J (fun _ q => Ys J J J q) ?_; intro c114 h114
      refine Zk 115 J J (Zm J J J ⟨J, J⟩) ?_
      refine Zk 116 J J (Zd J J ⟨J, J⟩) ?_
      rcases Zi h114 with ⟨rfl, g114⟩ | ⟨rfl, g114⟩
      ·skip
       refine Zs 117 J J J J (Zj J Xu J J ⟨J, J⟩) ?_
       refine Zs 118 J J J J (Zn J Yz J J ⟨J, J⟩) ?_
       refine Zs 119 J J J J (Zj J Wn J J ⟨J, J⟩) ?_
       refine Zs 120 J J J J (Zn J Vq J J ⟨J, J⟩) ?_
       refine Zs 121 J J J J (Yv J tu_36 J (.seq _ _) (fun _ => ⟨J, J⟩)) ?_
       refine Yy 122 J J J J (fun _ q => Xx J J J q) ?_; intro c122 h122
       refine Zk 123 J J (Zm J J J ⟨J, J⟩) ?_
       refine Zk 124 J J (Zd J J ⟨J, J⟩) ?_
       rcases Zi h122 with ⟨rfl, g122⟩ | ⟨rfl, g122⟩
       ·skip
        refine Zs 125 J J J J (Zj J Wn J J ⟨J, J⟩) ?_
        refine Zs 126 J J J J (Zn J Vq J J ⟨J, J⟩) ?_
        refine Zs 127 J J J J (Zj J Xu J J ⟨J, J⟩) ?_
        refine Zs 128 J J J J (Zn J Yz J J ⟨J, J⟩) ?_
        refine Zs 129 J J J J (Yd J te_36 J (.seq _ _) J J (hcy) ⟨J, J⟩) ?_
        refine Zs 130 J J J J (Zj J tf_73_0 J J ⟨J, J⟩) ?_
        refine Zs 131 J J J J (Zn J Xb J J ⟨J, J⟩) ?_
        refine Zs 132 J J J J (Zj J Wu J J ⟨J, J⟩) ?_
        refine Zs 133 J J J J (Zn J Xb J J ⟨J, J⟩) ?_
        refine Yy 134 J J J J (fun _ q => op_sneq J J J q) ?_; intro c134 h134
        refine Zk 135 J J (Zm J J J ⟨J, J⟩) ?_
        refine Zk 136 J J (Zd J J ⟨J, J⟩) ?_
        rcases Zi h134 with ⟨rfl, g134⟩ | ⟨rfl, g134⟩
        ·skip
         refine Zs 137 J J J J (Zj J Wn J J ⟨J, J⟩) ?_
         refine Zs 138 J J J J (Zn J Vq J J ⟨J, J⟩) ?_
         refine Zs 139 J J J J (Zj J Xu J J ⟨J, J⟩) ?_
         refine Zs 140 J J J J (Zn J Yz J J ⟨J, J⟩) ?_
         refine Zs 141 J J J J (Yd J te_36 J (.seq _ _) J J (hcy) ⟨J, J⟩) ?_
         refine Zs 142 J J J J (Zj J Wv J J ⟨J, J⟩) ?_
         refine Zs 143 J J J J (Zj J Wd J J ⟨J, J⟩) ?_
         refine Zs 144 J J J J (Zn J Xb J J ⟨J, J⟩) ?_
         refine Zs 145 J J J J (Zj J Wa J J ⟨J, J⟩) ?_
         refine Zs 146 J J J J (Zj J Wd J J ⟨J, J⟩) ?_
         refine Zs 147 J J J J (Zn J Xb J J ⟨J, J⟩) ?_
         refine Yy 148 J J J J (fun _ q => op_sneq J J J q) ?_; intro c148 h148
         refine Zk 149 J J (Zm J J J ⟨J, J⟩) ?_
         refine Zk 150 J J (Zd J J ⟨J, J⟩) ?_
         rcases Zi h148 with ⟨rfl, g148⟩ | ⟨rfl, g148⟩
         ·skip
          refine Zs 151 J J J J (Zj J Wa J J ⟨J, J⟩) ?_
          refine Zs 152 J J J J (Zj J Vt J J ⟨J, J⟩) ?_
          refine Zs 153 J J J J (Zn J Yz J J ⟨J, J⟩) ?_
          refine Yy 154 J J J J (fun _ q => Xp J J J q) ?_; intro c154 h154
          refine Zk 155 J J (Zm J J J ⟨J, J⟩) ?_
          refine Zk 156 J J (Zd J J ⟨J, J⟩) ?_
          rcases Zi h154 with ⟨rfl, g154⟩ | ⟨rfl, g154⟩
          ·skip
           refine Zs 157 J J J J (Zj J Wa J J ⟨J, J⟩) ?_
           refine Zs 158 J J J J (Zj J Xq J J ⟨J, J⟩) ?_
           refine Zs 159 J J J J (Zn J Wr J J ⟨J, J⟩) ?_
           refine Zs 160 J J J J (Yv J Vh J (.seq _ _) (fun _ => ⟨J, J⟩)) ?_
           refine Zs 161 J J J J (Zj J Wn J J ⟨J, J⟩) ?_
           refine Zs 162 J J J J (Zn J Vq J J ⟨J, J⟩) ?_
           refine Zs 163 J J J J (Zj J Xu J J ⟨J, J⟩) ?_
           refine Zs 164 J J J J (Zn J Yz J J ⟨J, J⟩) ?_
           refine Zs 165 J J J J (Yd J te_36 J (.seq _ _) J J (hcy) ⟨J, J⟩) ?_
           refine Zs 166 J J J J (Zj J Wv J J ⟨J, J⟩) ?_
           refine Zs 167 J J J J (Zj J Xq J J ⟨J, J⟩) ?_
           refine Zs 168 J J J J (Zn J Wr J J ⟨J, J⟩) ?_
           refine Zs 169 J J J J (Yv J Vh J (.seq _ _) (fun _ => ⟨J, J⟩)) ?_
           refine Yy 170 J J J J (fun _ q => Xp J J J q) ?_; intro c170 h170
           refine Zk 171 J J (Zm J J J ⟨J, J⟩) ?_
           show BoolQ _ _ _ _ _ _
           refine Ui J ?_ by5 by3
           clear HN HE; first | (simp_all; done) | (simp_all; omega) | grind
          ·skip
           refine Ze 157 J J J J (Ze 158 J J J J (Ze 159 J J J J (Ze 160 J J J J (Ze 161 J J J J (Ze 162 J J J J ?_)))))
           refine Ze 163 J J J J (Ze 164 J J J J (Ze 165 J J J J (Ze 166 J J J J (Ze 167 J J J J (Ze 168 J J J J ?_)))))
           refine Ze 169 J J J J (Ze 170 J J J J (Zk 171 J J (Zm J J J ⟨J, J⟩) ?_))
           show BoolQ _ _ _ _ _ _
           refine Ui J ?_ by5 by3
           clear HN HE; first | (simp_all; done) | (simp_all; omega) | grind
         ·skip
          refine Ze 151 J J J J (Ze 152 J J J J (Ze 153 J J J J (Ze 154 J J J J (Zk 155 J J (Zm J J J ⟨J, J⟩) ?_))))
          refine Zk 156 J J (Zd J J ⟨J, J⟩) ?_
          refine Ze 157 J J J J (Ze 158 J J J J (Ze 159 J J J J (Ze 160 J J J J (Ze 161 J J J J (Ze 162 J J J J ?_)))))
          refine Ze 163 J J J J (Ze 164 J J J J (Ze 165 J J J J (Ze 166 J J J J (Ze 167 J J J J (Ze 168 J J J J ?_)))))
          refine Ze 169 J J J J (Ze 170 J J J J (Zk 171 J J (Zm J J J ⟨J, J⟩) ?_))
          show BoolQ _ _ _ _ _ _
          refine Ui J ?_ by5 by3
          clear HN HE; first | (simp_all; done) | (simp_all; omega) | grind
        ·skip
         refine Ze 137 J J J J (Ze 138 J J J J (Ze 139 J J J J (Ze 140 J J J J (Ze 141 J J J J (Ze 142 J J J J ?_)))))
         refine Ze 143 J J J J (Ze 144 J J J J (Ze 145 J J J J (Ze 146 J J J J (Ze 147 J J J J (Ze 148 J J J J ?_)))))
         refine Zk 149 J J (Zm J J J ⟨J, J⟩) ?_
         refine Zk 150 J J (Zd J J ⟨J, J⟩) ?_
         refine Ze 151 J J J J (Ze 152 J J J J (Ze 153 J J J J (Ze 154 J J J J (Zk 155 J J (Zm J J J ⟨J, J⟩) ?_))))
         refine Zk 156 J J (Zd J J ⟨J, J⟩) ?_
         refine Ze 157 J J J J (Ze 158 J J J J (Ze 159 J J J J (Ze 160 J J J J (Ze 161 J J J J (Ze 162 J J J J ?_)))))
         refine Ze 163 J J J J (Ze 164 J J J J (Ze 165 J J J J (Ze 166 J J J J (Ze 167 J J J J (Ze 168 J J J J ?_)))))
         refine Ze 169 J J J J (Ze 170 J J J J (Zk 171 J J (Zm J J J ⟨J, J⟩) ?_))
         show BoolQ _ _ _ _ _ _
         refine Ui J ?_ by5 by3
         clear HN HE; first | (simp_all; done) | (simp_all; omega) | grind
       ·skip
        refine Ze 125 J J J J (Ze 126 J J J J (Ze 127 J J J J (Ze 128 J J J J (Ze 129 J J J J (Ze 130 J J J J ?_)))))
        refine Ze 131 J J J J (Ze 132 J J J J (Ze 133 J J J J (Ze 134 J J J J (Zk 135 J J (Zm J J J ⟨J, J⟩) ?_))))
        refine Zk 136 J J (Zd J J ⟨J, J⟩) ?_
        refine Ze 137 J J J J (Ze 138 J J J J (Ze 139 J J J J (Ze 140 J J J J (Ze 141 J J J J (Ze 142 J J J J ?_)))))
        refine Ze 143 J J J J (Ze 144 J J J J (Ze 145 J J J J (Ze 146 J J J J (Ze 147 J J J J (Ze 148 J J J J ?_)))))
        refine Zk 149 J J (Zm J J J ⟨J, J⟩) ?_
        refine Zk 150 J J (Zd J J ⟨J, J⟩) ?_
        refine Ze 151 J J J J (Ze 152 J J J J (Ze 153 J J J J (Ze 154 J J J J (Zk 155 J J (Zm J J J ⟨J, J⟩) ?_))))
        refine Zk 156 J J (Zd J J ⟨J, J⟩) ?_
        refine Ze 157 J J J J (Ze 158 J J J J (Ze 159 J J J J (Ze 160 J J J J (Ze 161 J J J J (Ze 162 J J J J ?_)))))
        refine Ze 163 J J J J (Ze 164 J J J J (Ze 165 J J J J (Ze 166 J J J J (Ze 167 J J J J (Ze 168 J J J J ?_)))))
        refine Ze 169 J J J J (Ze 170 J J J J (Zk 171 J J (Zm J J J ⟨J, J⟩) ?_))
        show BoolQ _ _ _ _ _ _
        refine Ui J ?_ by5 by3
        clear HN HE; first | (simp_all; done) | (simp_all; omega) | grind
      ·skip
       refine Ze 117 J J J J (Ze 118 J J J J (Ze 119 J J J J (Ze 120 J J J J (Ze 121 J J J J (Ze 122 J J J J ?_)))))
       refine Zk 123 J J (Zm J J J ⟨J, J⟩) ?_
       refine Zk 124 J J (Zd J J ⟨J, J⟩) ?_
       refine Ze 125 J J J J (Ze 126 J J J J (Ze 127 J J J J (Ze 128 J J J J (Ze 129 J J J J (Ze 130 J J J J ?_)))))
       refine Ze 131 J J J J (Ze 132 J J J J (Ze 133 J J J J (Ze 134 J J J J (Zk 135 J J (Zm J J J ⟨J, J⟩) ?_))))
       refine Zk 136 J J (Zd J J ⟨J, J⟩) ?_
       refine Ze 137 J J J J (Ze 138 J J J J (Ze 139 J J J J (Ze 140 J J J J (Ze 141 J J J J (Ze 142 J J J J ?_)))))
       refine Ze 143 J J J J (Ze 144 J J J J (Ze 145 J J J J (Ze 146 J J J J (Ze 147 J J J J (Ze 148 J J J J ?_)))))
       refine Zk 149 J J (Zm J J J ⟨J, J⟩) ?_
       refine Zk 150 J J (Zd J J ⟨J, J⟩) ?_
       refine Ze 151 J J J J (Ze 152 J J J J (Ze 153 J J J J (Ze 154 J J J J (Zk 155 J J (Zm J J J ⟨J, J⟩) ?_))))
       refine Zk 156 J J (Zd J J ⟨J, J⟩) ?_
       refine Ze 157 J J J J (Ze 158 J J J J (Ze 159 J J J J (Ze 160 J J J J (Ze 161 J J J J (Ze 162 J J J J ?_)))))
       refine Ze 163 J J J J (Ze 164 J J J J (Ze 165 J J J J (Ze 166 J J J J (Ze 167 J J J J (Ze 168 J J J J ?_)))))
       refine Ze 169 J J J J (Ze 170 J J J J (Zk 171 J J (Zm J J J ⟨J, J⟩) ?_))
       show BoolQ _ _ _ _ _ _
       refine Ui J ?_ by5 by3
       clear HN HE; first | (simp_all; done) | (simp_all; omega) | grind
     ·skip
      refine Ze 112 J J J J (Ze 113 J J J J (Ze 114 J J J J (Zk 115 J J (Zm J J J ⟨J, J⟩) ?_)))
      refine Zk 116 J J (Zd J J ⟨J, J⟩) ?_
      refine Ze 117 J J J J (Ze 118 J J J J (Ze 119 J J J J (Ze 120 J J J J (Ze 121 J J J J (Ze 122 J J J J ?_)))))
      refine Zk 123 J J (Zm J J J ⟨J, J⟩) ?_
      refine Zk 124 J J (Zd J J ⟨J, J⟩) ?_
      refine Ze 125 J J J J (Ze 126 J J J J (Ze 127 J J J J (Ze 128 J J J J (Ze 129 J J J J (Ze 130 J J J J ?_)))))
      refine Ze 131 J J J J (Ze 132 J J J J (Ze 133 J J J J (Ze 134 J J J J (Zk 135 J J (Zm J J J ⟨J, J⟩) ?_))))
      refine Zk 136 J J (Zd J J ⟨J, J⟩) ?_
      refine Ze 137 J J J J (Ze 138 J J J J (Ze 139 J J J J (Ze 140 J J J J (Ze 141 J J J J (Ze 142 J J J J ?_)))))
      refine Ze 143 J J J J (Ze 144 J J J J (Ze 145 J J J J (Ze 146 J J J J (Ze 147 J J J J (Ze 148 J J J J ?_)))))
      refine Zk 149 J J (Zm J J J ⟨J, J⟩) ?_
      refine Zk 150 J J (Zd J J ⟨J, J⟩) ?_
      refine Ze 151 J J J J (Ze 152 J J J J (Ze 153 J J J J (Ze 154 J J J J (Zk 155 J J (Zm J J J ⟨J, J⟩) ?_))))
      refine Zk 156 J J (Zd J J ⟨J, J⟩) ?_
      refine Ze 157 J J J J (Ze 158 J J J J (Ze 159 J J J J (Ze 160 J J J J (Ze 161 J J J J (Ze 162 J J J J ?_)))))
      refine Ze 163 J J J J (Ze 164 J J J J (Ze 165 J J J J (Ze 166 J J J J (Ze 167 J J J J (Ze 168 J J J J ?_)))))
      refine Ze 169 J J J J (Ze 170 J J J J (Zk 171 J J (Zm J J J ⟨J, J⟩) ?_))
      show BoolQ _ _ _ _ _ _
      refine Ui J ?_ by5 by3
      clear HN HE; first | (simp_all; done) | (simp_all; omega) | grind
    intro c171 h171
    refine Zb ?_
    rcases Zi h171 with ⟨rfl, g171⟩ | ⟨rfl, g171⟩
    ·refine Zq J (Zw (Zb (Zg (Vk Wi J (Zk 172 J J (Zj J Vj J J ⟨J, J⟩) ?_)))))
     refine Zk 173 J J (Zn J ta_28 J J ⟨J, J⟩) ?_
     refine Zk 174 J J (Yb (cs' := [_, _, _]) J Wb J J J ⟨J, J⟩) ?_
     refine Zk 175 J J (Zj J Xu J J ⟨J, J⟩) ?_
     refine Zk 176 J J (Zn J Yz J J ⟨J, J⟩) ?_
     refine Zk 177 J J (Zj J Wa J J ⟨J, J⟩) ?_
     refine Zk 178 J J (Yb (cs' := [_, _, _, _]) J Xt J J J ⟨J, J⟩) ?_
     refine Zk 179 J J (Yn (xs := [.tmp 174, .tmp 176, .tmp 178]) J J (HN) by1 ⟨J, J⟩) ?_
     refine Zk 180 J J (op_makeFunc (fs := []) (cs := [.tmp 4, .tmp 5]) J J J ⟨J, J⟩) ?_
     refine Xn 181 J J (fun _ q => Yg (xs := [.tmp 173, .tmp 179, .tmp 180]) J J (HE) by1 q) ?_; intro c181 h181
     refine Zk 8 J J (Zf J J ⟨J, J⟩) ?_
     show AGo _ _ _ _ _ _ _
     exact Zb (Ya (Yf J J (Ue _) (Vz _) ⟨⟨_, h181, J⟩, J⟩))
    ·exact False.elim g171
  ·exact absurd g46 (by decide)
 ·exact absurd g14 (by decide)
set_option maxHeartbeats 4000000 in
set_option maxRecDepth 100000 in
theorem Holds0_c (v : En) (gs : List Pr) (k n : Int) (c : ByteArray) (ks : List Pf) (p : Pr) (h1 : k ≠ 1) (h2 : k ≠ 2) (h3 : k ≠ 3) : BCall Tryz.prog 14 [.agg v.cells, .seq 5 (Pr.cellss gs), .agg (Pf.mk k n c ks).cells, .agg p.cells] False := by
 obtain ⟨pc, ⟨pk, ps, pn, pl⟩⟩ := p
 obtain ⟨da, cl, ins⟩ := v
 simp only [En.cells, Pf.cells, Pr.cells, Ty.cells] at *
 refine Zv Tryz.func14 J (by kernel_rfl) J (Uk J) ?_
 refine Ye (Zg (Zc (Za 4 J J J (Yj (cs' := [_, _, _]) J J J J (Za 5 J J J (Yj (cs' := [_]) J J J J (Za 6 J J J (Yj (cs' := [_, _, _, _]) J J J J (Za 7 J J J (Yj (cs' := [_, _, _, _, _]) J J J J ?_))))))))))
 refine Za 8 J J J (Zf J J (Vx (Zb (Zg (Zg (Zc (Za 11 J J J (Zj J Wp J J (Za 12 J J J (Zn J Yz J J (Vx (Zb (Zz (Zg (Zc (Za 14 J J J (Yk J J J ?_))))))))))))))))); intro c14 h14
 refine Za 13 J J J (Zf J J (Vx (Zb ?_)))
 rcases Zi h14 with ⟨rfl, g14⟩ | ⟨rfl, g14⟩
 ·refine Zq J (Zg (Zc (Za 46 J J J (Yk J J J ?_)))); intro c46 h46
  refine Za 45 J J J (Zf J J (Vx (Zb ?_)))
  rcases Zi h46 with ⟨rfl, g46⟩ | ⟨rfl, g46⟩
  ·refine Zq J (Zg (Zc (Za 107 J J J (Yk J J J ?_)))); intro c107 h107
   refine Za 106 J J J (Zf J J (Vx (Zb ?_)))
   rcases Zi h107 with ⟨rfl, g107⟩ | ⟨rfl, g107⟩
   ·refine Zq J (Zw (Yw (Zb (Zg (Zc (Za 8 J J J (Zf J J (Vx (Zb (Ya ?_))))))))))
    exact Yf J J (Ue _) (Vz _) ⟨⟨false, by simp, J⟩, J⟩
   ·exact absurd g107 h3
  ·exact absurd g46 h2
 ·exact absurd g14 h1
theorem Holds_c (v : En) (hv : EnC v) (gs : List Pr) : ∀ (d : Nat) (x : Pf), x.size ≤ d → ∀ p : Pr, p.t.size ≤ 1000000 → BCall Tryz.prog 14 [.agg v.cells, .seq 5 (Pr.cellss gs), .agg x.cells, .agg p.cells] (holdsP v gs x p)
 | 0, x, h, _, _ => by cases x; simp [Pf.size] at h
 | d + 1, .mk k n c ks, h, p, hp => by
  rw [Pf.size] at h
  have IH : ∀ x ∈ ks, ∀ p : Pr, p.t.size ≤ 1000000 → _ := fun x hx p hp => Holds_c v hv gs d x (by have := Pf.size_mem hx; omega) p hp
  by_cases h1 : k = 1
  ·subst h1
   by_cases hn : n < 0 ∨ gs.length ≤ n
   ·refine bsame (Holds1_out v gs n hn c ks p) ?_
    rw [holds_1]
    refine ⟨False.elim, fun q => ?_⟩
    have := Vf q.2.2.2
    omega
   ·obtain ⟨i, rfl⟩ : ∃ i : Nat, n = i := ⟨n.toNat, by omega⟩
    obtain ⟨g, hg⟩ := Yu (l := gs) (i := i) (by omega)
    refine bsame (Holds1_in v gs i g hg c ks p) ?_
    rw [holds_1, show ((i : Int)).toNat = i by omega, hg]
    simp
  by_cases h2 : k = 2
  ·subst h2
   by_cases hc : 0 ≤ classI v c
   ·obtain ⟨j, z, hj, hz, hs⟩ := classI_hit hc
    by_cases hn : n < 0 ∨ z.su.length ≤ n
    ·refine bsame (Holds2_out v gs n c j z hj hz hn ks p) ?_
     rw [holds_2, hs]
     refine ⟨False.elim, fun q => ?_⟩
     have := Vf q.2.2.1
     omega
    ·obtain ⟨i, rfl⟩ : ∃ i : Nat, n = i := ⟨n.toNat, by omega⟩
     obtain ⟨s, hsi⟩ := Yu (l := z.su) (i := i) (by omega)
     by_cases hk : ks.length = 1 ∧ s = p.c
     ·obtain ⟨hk1, hk2⟩ := hk
      obtain ⟨x, rfl⟩ := List.length_eq_one_iff.1 hk1
      subst hk2
      refine bsame (Holds2_go v gs i c j z hj hz x p hsi _ (IH x (by simp) (.mk c p.t) hp)) ?_
      rw [holds_2, hs, show ((i : Int)).toNat = i by omega, hsi, holdsL_one]
      exact ⟨fun q => ⟨hc, by omega, rfl, x, rfl, q⟩, fun ⟨_, _, _, y, he, hq⟩ => by cases he; exact hq⟩
     ·refine bsame (Holds2_in v gs i c j z hj hz s hsi ks p hk) ?_
      rw [holds_2, hs, show ((i : Int)).toNat = i by omega, hsi]
      refine ⟨False.elim, fun q => hk ⟨by have := holdsL_len q.2.2.2; simpa using this, by simpa using q.2.2.1⟩⟩
   ·refine bsame (Holds2_no v gs n c hc ks p) ?_
    rw [holds_2]
    exact ⟨False.elim, fun q => hc q.1⟩
  by_cases h3 : k = 3
  ·subst h3
   by_cases hn : n < 0 ∨ v.ins.length ≤ n
   ·refine bsame (Holds3_out v gs n c hn ks p) ?_
    rw [holds_3]
    refine ⟨False.elim, fun ⟨_, _, ⟨y, hy, _⟩, _⟩ => ?_⟩
    have := Vf hy
    omega
   ·obtain ⟨i, rfl⟩ : ∃ i : Nat, n = i := ⟨n.toNat, by omega⟩
    obtain ⟨y, hy⟩ := Yu (l := v.ins) (i := i) (by omega)
    by_cases hk : c = kE ∧ fitsP y p
    ·obtain ⟨rfl, hf⟩ := hk
     refine bsame (Holds3_go v hv.g gs i y hy ks p hf hp (fun x hx q hq => IH x hx q (by have := hv.needs_size hq; omega))) ?_
     rw [holds_3, show ((i : Int)).toNat = i by omega, hy]
     exact ⟨fun q => ⟨J, by omega, ⟨y, J, hf⟩, q⟩, fun q => q.2.2.2⟩
    ·refine bsame (Holds3_no v gs i c y hy ks p hk) ?_
     rw [holds_3, show ((i : Int)).toNat = i by omega, hy]
     refine ⟨False.elim, fun ⟨hc, _, ⟨y', he, hf⟩, _⟩ => ?_⟩
     cases he
     exact hk ⟨hc, hf⟩
  exact bsame (Holds0_c v gs k n c ks p h1 h2 h3) ⟨False.elim, holds_0 h1 h2 h3⟩
end Go.Proofs.YtknodnfbaofngaaGreat
