/- Parts of a proof: the program's Above; Needs of the program; declarations that were parsed and are right; what stands above a class: the classes that can be reached; Put and Apply of the document; Needs of the document; Needs of both, as one function; proofs of preds as plain data; the document's Prove as plain functions; nodes; what is asked; The arguments of the statements of layer 12.; when a proof holds, as a plain law; sameness of preds and proofs; an instance that fits; the way up: climb of the document, up of the program; Prove of the program; Prove of the document; the document's Prove is sound, and with more givens it proves what it proved; all proofs of a pred, as plain lists; all proofs of a pred, at most so many, as plain lists; A logic of trees: a range over a function within a round of another.; the program's iterators: rows; the program's iterators: proofs; the program's iterators: all depths; A logic of trees: drawn regions order by order; a row that becomes eternal.; A logic of trees: drawn regions order by order, weaker slots; rows from nil.; All of the program; the document's rows -/
import Derived.Test.YtknodnfbaofngaaGreatKLNAll5
import Derived.RangeFuncNested
set_option maxRecDepth 100000
set_option maxHeartbeats 4000000
namespace Go.Proofs.YtknodnfbaofngaaGreat
open Go.RowKit
theorem tAbove_c (v : En) (hS : (allSup v).length ≤ 10000000000) (c : ByteArray) : OCall Tryz.prog 32 [.agg v.cells, .val (.string c)] 9 1 (strs (aboveR v c)) := by
 have H := fun b5 b6 => Above1_c v hS b5 b6 ((allSup v).length + 1) c [] (.slice none 0 0) (by rw [lack_nil]; omega) (by rw [lack_nil]; simp)
 obtain ⟨da, cl, ins⟩ := v
 have he : overF (En.mk da cl ins) ((allSup (En.mk da cl ins)).length + 1) c [] = aboveR (En.mk da cl ins) c := rfl
 rw [he] at H
 simp only [En.cells] at H ⊢
 refine Zu Tryz.func32 V (by kernel_rfl) V (Ud V) ?_
 refine Yf (Zf (Zc (Za 2 V V V (Xb (cs' := [_, _, _]) V V V V (Za 4 V V V (Ze V V (Vq (Zb (Zf (Zc (Za 5 V V V (Zy (cs' := [_]) V tz_68 V V ?_)))))))))))); intro b5
 refine Vq (Zb (Zf (Zc (Za 6 V V V (Zy (cs' := [_]) V tz_123 V V ?_))))); intro b6
 refine Vq (Zb (Zf (Zc (Za 7 V V V (op_makeFunc (fs := []) (cs := [.tmp 2, .tmp 5, .tmp 6]) V V V (Zq V V (Zm (cs' := [_]) (i := 0) V ts_123 V V V V V (Ud V) V (Vq (Zb (Zf (Xx 9 1 (c_le (SLe.refl _) (Vt _ (Vv _ (Vz (Le.nilOwn 1) (Vy _)) (Vr _))) (Zc (Za 8 V V V (Zl (i := 0) V ta_123 V V V (Za 9 V V V (Zd V V (Za 10 V V V (op_callvat [1, 1, 0] (xs := [.tmp 9])  V V V V (H b5 b6) by1 ?_)))))))))))))))))))
 rintro v10 M10 ⟨u10, rfl, rfl⟩
 exact Vq (Zb (Zf (Zc (Za 11 V V V (Zl (i := 0) V ta_68 V V V (Za 4 V V V (Ze V V (Vq (Zb (Ya (Yg V V (Vx _) (Vu _ (Vt _ (Vs _))) ⟨u10, V, V⟩)))))))))))
structure EnG (v : En) : Prop where
 b : EnB v
 cv : ∀ x ∈ v.ins, CtxV x.cx
def needsR (v : En) (inst : Int) (t : Ty) : List Pr := match v.ins[inst.toNat]? with
 | none => []
 | some x => if inst < 0 ∨ t.kind ≠ 3 ∨ t.kids.length ≠ x.hd.kids.length then [] else x.cx.map fun p => Pr.mk p.c (p.t.turn (putO (varsR x) t.kids))
theorem Needs_out (v : En) (inst : Int) (t : Ty) (h : inst < 0 ∨ v.ins.length ≤ inst) : PCall Tryz.prog 17 [.agg v.cells, .val (.int .i64 inst), .agg t.cells] (.seq 5 []) := by
 obtain ⟨da, cl, ins⟩ := v
 obtain ⟨tk, ts, tn, tl⟩ := t
 have hli := In.cellss_len ins
 simp only [En.ins] at h
 simp only [En.cells, Ty.cells]
 refine Zu Tryz.func17 V (by kernel_rfl) V (Ud V) ?_
 refine Yf (Zf (Zc (Za 3 V V V (Xb (cs' := [_, _, _]) V V V V (Za 5 V V V (Xb (cs' := [_, _, _, _]) V V V V (Za 6 V V V (Ze V V (Vq (Zb (Zf (Zf (c_boold 41 (True) Wk V ?_ _ _ V ?_)))))))))))))
 ·skip
  refine Zs 14 V V (Zd V V ⟨V, V⟩) ?_
  refine Wb 15 V V (fun _ q => Yq V V V q) ?_; intro c15 h15
  refine Zs 16 V V (Zd V V ⟨V, V⟩) ?_
  rcases Zh h15 with ⟨rfl, g15⟩ | ⟨rfl, g15⟩
  ·skip
   refine Ye 17 V V V V (Zd V V ⟨V, V⟩) ?_
   refine Ye 18 V V V V (Zj V Vi V V ⟨V, V⟩) ?_
   refine Ye 19 V V V V (Zp V ta_36 V V ⟨V, V⟩) ?_
   refine Ye 20 V V V V (Yx V tu_36 V (.seq _ _) (fun _ => ⟨V, V⟩)) ?_
   refine Wp 21 V V V V (fun _ q => Wm V V V q) ?_; intro c21 h21
   refine Zs 22 V V (Zo V V V ⟨V, V⟩) ?_
   refine Zs 23 V V (Zd V V ⟨V, V⟩) ?_
   rcases Zh h21 with ⟨rfl, g21⟩ | ⟨rfl, g21⟩
   ·omega
   ·skip
    refine Zv 24 V V V V (Zv 25 V V V V (Zv 26 V V V V (Zs 27 V V (Zo V V V ⟨V, V⟩) ?_)))
    refine Zs 28 V V (Zd V V ⟨V, V⟩) ?_
    refine Zv 29 V V V V (Zv 30 V V V V (Zv 31 V V V V (Zv 32 V V V V (Zv 33 V V V V (Zv 34 V V V V (Zv 35 V V V V (Zv 36 V V V V (Zv 37 V V V V (Zv 38 V V V V (Zv 39 V V V V (Zv 40 V V V V ?_)))))))))))
    refine Zs 41 V V (Zo V V V ⟨V, V⟩) ?_
    show BoolQ _ _ _ _ _ _
    refine Ub V ?_ by5 by3
    simp
  ·skip
   refine Zv 17 V V V V (Zv 18 V V V V (Zv 19 V V V V (Zv 20 V V V V (Zv 21 V V V V (Zs 22 V V (Zo V V V ⟨V, V⟩) ?_)))))
   refine Zs 23 V V (Zd V V ⟨V, V⟩) ?_
   refine Zv 24 V V V V (Zv 25 V V V V (Zv 26 V V V V (Zs 27 V V (Zo V V V ⟨V, V⟩) ?_)))
   refine Zs 28 V V (Zd V V ⟨V, V⟩) ?_
   refine Zv 29 V V V V (Zv 30 V V V V (Zv 31 V V V V (Zv 32 V V V V (Zv 33 V V V V (Zv 34 V V V V (Zv 35 V V V V (Zv 36 V V V V (Zv 37 V V V V (Zv 38 V V V V (Zv 39 V V V V (Zv 40 V V V V ?_)))))))))))
   refine Zs 41 V V (Zo V V V ⟨V, V⟩) ?_
   show BoolQ _ _ _ _ _ _
   refine Ub V ?_ by5 by3
   simp
 intro c41 h41
 refine Zb ?_
 rcases Zh h41 with ⟨rfl, g41⟩ | ⟨rfl, g41⟩
 ·exact absurd trivial g41
 ·exact Zr V (Zf (Zc (Za 6 V V V (Ze V V (Vq (Zb (Ya (Yg V V (Le.nil _) (Vs _) ⟨V, V⟩))))))))
theorem Needs_in (v : En) (hv : EnG v) (i : Nat) (y : In) (hy : v.ins[i]? = some y) (t : Ty) (ht : t.size ≤ 1000000) : PCall Tryz.prog 17 [.agg v.cells, .val (.int .i64 i), .agg t.cells] (.seq 5 (Pr.cellss (if t.kind ≠ 3 ∨ t.kids.length ≠ y.hd.kids.length then [] else y.cx.map fun p => Pr.mk p.c (p.t.turn (putO (varsR y) t.kids))))) := by
 obtain ⟨hb1, _, hb3⟩ := hv.b.inss y (Ui hy)
 have hcv := hv.cv y (Ui hy)
 obtain ⟨da, cl, ins⟩ := v
 have hi := get_lt hy
 have hcy := In.cellss_get hy
 have hli := In.cellss_len ins
 simp only [En.ins] at hi hcy hy
 obtain ⟨tk, ts, tn, tl⟩ := t
 have hlt := Ty.cellss_len tl
 have hkz : ∀ t ∈ tl, t.size ≤ 1000000 := fun u hu => by have := Ty.size_mem hu; rw [Ty.size] at ht; omega
 obtain ⟨yc, ⟨yk, ys, yn, yl⟩, ycx, ybs, yp⟩ := y
 have hly := Ty.cellss_len yl
 have hlp := Pr.cellss_len ycx
 have hb1 : ycx.length ≤ 100000 := hb1
 have hb3 : yl.length ≤ 200000 := hb3
 have hcv : CtxV ycx := hcv
 simp only [In.cells, Ty.cells, List.cons_append, List.nil_append] at hcy
 obtain ⟨R, hR⟩ : ∃ R, (if tk ≠ 3 ∨ tl.length ≠ yl.length then [] else ycx.map fun p => Pr.mk p.c (p.t.turn (putO (yl.map Ty.name) tl))) = R := ⟨_, rfl⟩
 have hR' : (if (Ty.mk tk ts tn tl).kind ≠ 3 ∨ (Ty.mk tk ts tn tl).kids.length ≠ (In.mk yc (Ty.mk yk ys yn yl) ycx ybs yp).hd.kids.length then [] else (In.mk yc (Ty.mk yk ys yn yl) ycx ybs yp).cx.map fun p => Pr.mk p.c (p.t.turn (putO (varsR (In.mk yc (Ty.mk yk ys yn yl) ycx ybs yp)) (Ty.mk tk ts tn tl).kids))) = R := hR
 rw [hR']
 simp only [En.cells, Ty.cells]
 refine Zu Tryz.func17 V (by kernel_rfl) V (Ud V) ?_
 refine Yf (Zf (Zc (Za 3 V V V (Xb (cs' := [_, _, _]) V V V V (Za 5 V V V (Xb (cs' := [_, _, _, _]) V V V V (Za 6 V V V (Ze V V (Vq (Zb (Zf (Zf (c_boold 41 (tk ≠ 3 ∨ tl.length ≠ yl.length) Wk V ?_ _ _ V ?_)))))))))))))
 ·skip
  refine Zs 14 V V (Zd V V ⟨V, V⟩) ?_
  refine Wb 15 V V (fun _ q => Yq V V V q) ?_; intro c15 h15
  refine Zs 16 V V (Zd V V ⟨V, V⟩) ?_
  rcases Zh h15 with ⟨rfl, g15⟩ | ⟨rfl, g15⟩
  ·skip
   refine Ye 17 V V V V (Zd V V ⟨V, V⟩) ?_
   refine Ye 18 V V V V (Zj V Vi V V ⟨V, V⟩) ?_
   refine Ye 19 V V V V (Zp V ta_36 V V ⟨V, V⟩) ?_
   refine Ye 20 V V V V (Yx V tu_36 V (.seq _ _) (fun _ => ⟨V, V⟩)) ?_
   refine Wp 21 V V V V (fun _ q => Wm V V V q) ?_; intro c21 h21
   refine Zs 22 V V (Zo V V V ⟨V, V⟩) ?_
   refine Zs 23 V V (Zd V V ⟨V, V⟩) ?_
   rcases Zh h21 with ⟨rfl, g21⟩ | ⟨rfl, g21⟩
   ·skip
    refine Ye 24 V V V V (Zj V tf_25_0 V V ⟨V, V⟩) ?_
    refine Ye 25 V V V V (Zp V Xf V V ⟨V, V⟩) ?_
    refine Wp 26 V V V V (fun _ q => Xw V V V q) ?_; intro c26 h26
    refine Zs 27 V V (Zo V V V ⟨V, V⟩) ?_
    refine Zs 28 V V (Zd V V ⟨V, V⟩) ?_
    rcases Zh h26 with ⟨rfl, g26⟩ | ⟨rfl, g26⟩
    ·skip
     refine Ye 29 V V V V (Zj V Xr V V ⟨V, V⟩) ?_
     refine Ye 30 V V V V (Zp V Wr V V ⟨V, V⟩) ?_
     refine Ye 31 V V V V (Yx V Vk V (.seq _ _) (fun _ => ⟨V, V⟩)) ?_
     refine Ye 32 V V V V (Zj V Vi V V ⟨V, V⟩) ?_
     refine Ye 33 V V V V (Zp V ta_36 V V ⟨V, V⟩) ?_
     refine Ye 34 V V V V (Zd V V ⟨V, V⟩) ?_
     refine Ye 35 V V V V (Yd V te_36 V (.seq _ _) V V (hcy) ⟨V, V⟩) ?_
     refine Ye 36 V V V V (Zj V Vd V V ⟨V, V⟩) ?_
     refine Ye 37 V V V V (Zj V Xr V V ⟨V, V⟩) ?_
     refine Ye 38 V V V V (Zp V Wr V V ⟨V, V⟩) ?_
     refine Ye 39 V V V V (Yx V Vk V (.seq _ _) (fun _ => ⟨V, V⟩)) ?_
     refine Wp 40 V V V V (fun _ q => Xw V V V q) ?_; intro c40 h40
     refine Zs 41 V V (Zo V V V ⟨V, V⟩) ?_
     show BoolQ _ _ _ _ _ _
     refine Ub V ?_ by5 by3
     first | (simp_all; done) | (simp_all; omega) | grind
    ·skip
     refine Zv 29 V V V V (Zv 30 V V V V (Zv 31 V V V V (Zv 32 V V V V (Zv 33 V V V V (Zv 34 V V V V (Zv 35 V V V V (Zv 36 V V V V (Zv 37 V V V V (Zv 38 V V V V (Zv 39 V V V V (Zv 40 V V V V ?_)))))))))))
     refine Zs 41 V V (Zo V V V ⟨V, V⟩) ?_
     show BoolQ _ _ _ _ _ _
     refine Ub V ?_ by5 by3
     first | (simp_all; done) | (simp_all; omega) | grind
   ·omega
  ·omega
 intro c41 h41
 refine Zb ?_
 rcases Zh h41 with ⟨rfl, g41⟩ | ⟨rfl, g41⟩
 ·refine Zn V (Zt (Zb (Zf ?_)))
  rw [if_neg g41] at hR
  refine Zc (Za 42 V V V (Zj V Vi V V (Za 43 V V V (Zp V ta_36 V V (Za 44 V V V (Zd V V (Za 45 V V V (Yd V te_36 V (.seq _ _) V V (hcy) (Za 46 V V V (Yc (cs' := [_, _, _, _, _, _, _, _]) V ta_73 V V V (Za 7 V V V (Zy (cs' := [_, _, _, _, _, _, _, _]) V tz_73 V V ?_)))))))))))); intro b7
  refine Zq V V (Zm (cs' := [_, _, _, _, _, _, _, _]) (i := 0) V ts_73 V V V V V (Ud V) V (Vq (Zb (Zf (Zc (Za 8 V V V (Ze V V (Vq (Zb (Zf (Zf (Zc (Za 47 V V V (Zg V Vd V (Za 48 V V V (Zg V Xr V (Za 49 V V V (Zl (i := 0) V Wr V V V ?_))))))))))))))))))
  refine Za 50 V V V (Yx V Vk V (.seq _ _) (fun n50 => ?_))
  refine Za 51 V V V (Zd V V (Vq (Zb (Zw (Xx 9 1 ?_)))))
  apply Xp [0, 1, 2, 3, 4, 8, 9, 10, 12, 14, 15, 16, 17, 18, 19, 20, 21, 22, 23, 24, 25, 26, 27, 28, 29, 30, 31, 32, 33, 34, 35, 36, 37, 38, 39, 40, 41, 42, 43, 44, 45, 46, 47, 48, 51, 52, 53, 54, 55, 56, 57, 58, 59, 60] (σ := Nat × List ByteArray × Value) (fun zz => match zz with | (k, acc, u) => [(8, .own u 1 (strs acc)), (51, .val (.int .i64 k))]) (fun zz => match zz with | (k, acc, u) => [.loc b7 [.val (.string yc), .val (.int .i64 yk), .val (.string ys), .val (.int .i64 yn), .seq 4 (Ty.cellss yl), .seq 5 (Pr.cellss ycx), .seq 13 (Bi.cellss ybs), .val (.int .i64 yp)], .own 9 1 u]) (fun zz => match zz with | (k, acc, u) => k ≤ yl.length ∧ acc = (yl.take k).map Ty.name) (fun zz => match zz with | (k, acc, u) => yl.length - k) ((0, [], .slice none 0 0))
  ·repeat' (first | exact Ug | apply Ue rfl | apply Uf rfl)
  ·exact ⟨Nat.zero_le _, V⟩
  ·exact Ua V (Le.nilOwn 1) (Ua V (Vx _) (SLe.nil _))
  ·exact (Vw V)
  rintro ⟨k, acc, u⟩ hI
  try dsimp only [List.cons_append, List.nil_append] at hI ⊢
  obtain ⟨h1, ha⟩ := hI
  have hle : (strs acc).length ≤ 1000000 := by rw [Xy, ha, List.length_map, List.length_take]; omega
  refine Zf (Zc (Za 52 V V V (Yq V V V ?_))); intro c52 h52
  refine Vq (Zb (Zf ?_))
  rcases Zh h52 with ⟨rfl, g52⟩ | ⟨rfl, g52⟩
  ·refine Zn V (Yy (Xa (Xs (Yz (Zb (Zf ?_))))))
   rw [List.take_of_length_le (by omega)] at ha
   refine Zc (Za 11 V V V (Ze V V (Vq (Zb (Zf (Zf (Zc (Za 61 V V V (Zg V tf_73_2 V (Za 62 V V V (Zl (i := 0) V ta_22 V V V ?_)))))))))))
   refine Za 63 V V V (Yx V tu_22 V (.seq _ _) (fun n63 => ?_))
   refine Za 64 V V V (Zd V V (Vq (Zb (Zw (c_le (al' := [(5, .cptr [.val (.int .i64 tk), .val (.string ts), .val (.int .i64 tn), .seq 4 (Ty.cellss tl)]), (7, .ptr b7 0), (8, .seq 1 (strs acc)), (11, .val (.slice none 0 0)), (62, .seq 5 (Pr.cellss ycx)), (63, .val (.int .i64 (Pr.cellss ycx).length)), (64, .val (.int .i64 0))]) by4 (M' := []) (Vs _) ?_)))))
   refine Xx 27 5 ?_
   apply Xp [0, 1, 2, 3, 4, 7, 9, 10, 11, 12, 13, 14, 15, 16, 17, 18, 19, 20, 21, 22, 23, 24, 25, 26, 27, 28, 29, 30, 31, 32, 33, 34, 35, 36, 37, 38, 39, 40, 41, 42, 43, 44, 45, 46, 47, 48, 49, 50, 51, 52, 53, 54, 55, 56, 57, 58, 59, 60, 61, 64, 65, 66, 67, 68, 69, 70, 71, 72, 73, 74, 75, 76, 77, 78, 79, 80] (σ := Nat × List Pr × Value) (fun zz => match zz with | (k, out, w) => [(11, .own w 5 (Pr.cellss out)), (64, .val (.int .i64 k))]) (fun zz => match zz with | (k, out, w) => [.own 27 5 w]) (fun zz => match zz with | (k, out, w) => k ≤ ycx.length ∧ out = (ycx.take k).map fun p => Pr.mk p.c (p.t.turn (putO (yl.map Ty.name) tl))) (fun zz => match zz with | (k, out, w) => ycx.length - k) ((0, [], .slice none 0 0))
   ·repeat' (first | exact Ug | apply Ue rfl | apply Uf rfl)
   ·exact ⟨Nat.zero_le _, V⟩
   ·exact Ua V (Le.nilOwn 5) (Ua V (Vx _) (SLe.nil _))
   ·exact (Vw V)
   rintro ⟨k, out, w⟩ hI
   try dsimp only [List.cons_append, List.nil_append] at hI ⊢
   obtain ⟨h2, hb⟩ := hI
   have hle : (Pr.cellss out).length ≤ 1000000 := by rw [Pr.cellss_len, hb, List.length_map, List.length_take]; omega
   refine Zf (Zc (Za 65 V V V (Yq V V V ?_))); intro c65 h65
   refine Vq (Zb (Zf ?_))
   rcases Zh h65 with ⟨rfl, g65⟩ | ⟨rfl, g65⟩
   ·refine Zn V (Yy (Xa (Xs (Yz (Zb (Zf (Zc (Za 81 V V V (Zd V V (Za 6 V V V (Ze V V (Vq (Zb (Ya ?_))))))))))))))
    rw [List.take_of_length_le (by omega)] at hb; rw [← hR]; exact Yg rfl rfl (Le.own_seq (by rw [hb])) (Vs _) ⟨rfl, rfl⟩
   ·refine Zr V (Zt (Zb (Zf (Zw (Zf ?_)))))
    obtain ⟨q, hq⟩ := Yu (l := ycx) (i := k) (by omega)
    obtain ⟨qc, qs, rfl⟩ := hcv q (Ui hq)
    have hcq := Pr.cellss_get hq
    have hsn := Wa hq
    have HP := Put_c acc tl (Ty.mk 1 qs 0 []) hkz (by simp [Ty.size, Ty.sizes])
    obtain ⟨⟨rk, rs, rn, rl⟩, hr⟩ : ∃ t, (Ty.mk 1 qs 0 []).turn (putO acc tl) = t := ⟨_, rfl⟩
    rw [hr] at HP
    simp only [Pr.cells, Ty.cells] at hcq HP
    refine Zc (Za 66 V V V (Yd V te_22 V (.seq _ _) V V (hcq) (Za 67 V V V (Yc (cs' := [_, _, _, _, _]) V ta_27 V V V (Za 13 V V V (Zy (cs' := [_, _, _, _, _]) V tz_27 V V ?_)))))); intro b13
    refine Zq V V (Zm (cs' := [_, _, _, _, _]) (i := 0) V ts_27 V V V V V (Ud V) V (Vq (Zb (Xu [0, 1, 2, 3, 4, 5, 6, 7, 8, 9, 10, 11, 12] [11] [[], [], [1], [], [], [4], [], [6], [3, 4, 5, 6, 7], [1, 2, 3, 4, 5, 6, 7, 8], [1, 2, 3, 4, 5, 6, 7, 8, 9], [0, 1, 2, 3, 4, 5, 6, 7, 8, 9, 10], [0, 1, 2, 3, 4, 5, 6, 7, 8, 9, 10, 11]] Wk V (Zz 68 (none) (i := 0) V V V V V (Zd V V ⟨V, V⟩) ?_)))))
    refine Zz 69 (none) (i := 1) V V V V V (Zg V Wy V ⟨V, V⟩) ?_
    refine Zz 70 (some 0) (i := 2) V V V V V (Zl (i := 0) V Xd V V V ⟨V, V⟩) ?_
    refine Zz 71 (none) (i := 3) V V V V V (Zd V V ⟨V, V⟩) ?_
    refine Zz 72 (none) (i := 4) V V V V V (Zj V Xr V V ⟨V, V⟩) ?_
    refine Zz 73 (none) (i := 5) V V V V V (Zp V Wr V V ⟨V, V⟩) ?_
    refine Zz 74 (none) (i := 6) V V V V V (Zg V Wl V ⟨V, V⟩) ?_
    refine Zz 75 (some 0) (i := 7) V V V V V (Zx (cs' := [_, _, _, _]) (i := 0) V Xq V V V V ⟨V, V⟩) ?_
    refine Zz 76 (none) (i := 8) V V V V V (Yk (xs := [.tmp 71, .tmp 73, .tmp 75]) V V (HP) by1 ⟨V, V⟩) ?_
    refine Zz 77 (none) (i := 9) V V V V V (Yj (ns := [0, 1]) (xs := [.tmp 70, .tmp 76]) V tz_27 V tfl_27 V V V V ⟨V, V⟩) ?_
    refine Zz 78 (none) (i := 10) V V V V V (Yb (xs := [.tmp 77]) el_22 V V V V V V (Ud V) ⟨V, V⟩) ?_
    refine Xm 1 (i := 11) V V V V V (Xg (i := 0) el_22 V V V V (.seq _ _) by6 (fun u79 => ⟨_, V, ?_⟩))
    refine Zz 11 (none) (i := 12) V V V V V (Ze V V ⟨V, V⟩) ?_
    show AGo _ _ _ _ _ _ _
    refine Yn (Zb (Zc (Za 80 V V V (Yt V V V (Uh _ (by omega)) ?_))))
    refine Za 64 V V V (Zd V V (Vq (Yv ?_)))
    exact ⟨(k + 1, out ++ [Pr.mk qc (Ty.mk rk rs rn rl)], u79), ⟨by show k + 1 ≤ ycx.length; omega, by rw [hsn, List.map_append, hb, ← hr, ← ha]; rfl⟩, by show ycx.length - (k + 1) < ycx.length - k; omega, Ua V (Uc (by simp [Pr.cellss]; rfl)) by4, (Vu _ (Vw V))⟩
  ·refine Zr V (Zt (Zb (Zf (Zw (Zf ?_)))))
   obtain ⟨⟨zk, zs, zn, zl⟩, hz⟩ := Yu (l := yl) (i := k) (by omega)
   have hcz := Ty.cellss_get hz
   have hsn := Wa hz
   simp only [Ty.cells] at hcz
   refine Zc (Za 53 V V V (Yd V te_23 V (.seq _ _) V V (hcz) (Za 54 V V V (Yc (cs' := [_, _, _, _]) V Xq V V V (Za 10 V V V (Zy (cs' := [_, _, _, _]) V tz_25 V V ?_)))))); intro b10
   refine Zq V V (Zm (cs' := [_, _, _, _]) (i := 0) V ts_25 V V V V V (Ud V) V (Vq (Zb (Zc (Za 55 V V V (Zd V V (Za 56 V V V (Zg V Wg V (Za 57 V V V (Zl (i := 0) V Xd V V V (Za 58 V V V (Yb (xs := [.tmp 57]) Vo V V V V V V (Ud V) (Za 59 V V V (Xg (i := 2) Vo V V V V (.seq _ _) by6 ?_))))))))))))))
   intro u59
   refine Za 8 V V V (Ze V V (Vq (Yn (Zb (Zc (Za 60 V V V (Yt V V V (Uh _ (by omega)) ?_)))))))
   refine Za 51 V V V (Zd V V (Vq (Yv ?_)))
   exact ⟨(k + 1, acc ++ [zs], u59), ⟨by show k + 1 ≤ yl.length; omega, by rw [hsn, List.map_append, ha]; rfl⟩, by show yl.length - (k + 1) < yl.length - k; omega, Ua V (Uc (by rw [strs_app]; rfl)) by4, (Vu _ (Vw V))⟩
 ·refine Zr V (Zf (Zc (Za 6 V V V (Ze V V (Vq (Zb (Ya ?_)))))))
  rw [if_pos g41] at hR; subst hR; exact Yg rfl rfl (Le.nil _) (Vs _) ⟨rfl, rfl⟩
end Go.Proofs.YtknodnfbaofngaaGreat
namespace Go.Proofs.YtknodnfbaofngaaGreat
theorem progT_b (s : ByteArray) : PgB 70000 (progT s).1 := by
 have hL := scanT_len s
 unfold progT
 dsimp only
 split
 ·exact pg0_b.up (by omega)
 ·have k0 : POk (scanT s).1 302 (beginP (scanT s)) := by
   unfold beginP
   split
   ·unfold failP POk; simp
   ·unfold POk; simp
  exact (progL_b hL ((scanT s).1.length + 1) 0 _ pg0 k0 pg0_b).up (by omega)
theorem progT_g (s : ByteArray) : EnG (envOf (progT s).1) ∧ (progT s).1.bs.length ≤ 1000000 := by
 have h := progT_b s
 generalize (progT s).1 = x at h
 obtain ⟨da, cl, ins, bs⟩ := x
 obtain ⟨h1, h2, h3, h4, h5, h6, h7⟩ := h
 simp only [Pg.da, Pg.cl, Pg.ins, Pg.bs] at h1 h2 h3 h4 h5 h6 h7
 refine ⟨⟨⟨?_, h5, ?_, h6, ?_, fun x hx => (h7 x hx).1⟩, fun x hx => (h7 x hx).2⟩, ?_⟩
 ·show da.length ≤ 100000; omega
 ·show cl.length ≤ 100000; omega
 ·show ins.length ≤ 100000; omega
 ·show bs.length ≤ 1000000; omega
structure EnC (v : En) : Prop where
 g : EnG v
 un : ∀ (i : Nat) (x : In), v.ins[i]? = some x → instI v x.c x.hd.name = i
 var : ∀ x ∈ v.ins, ∀ p ∈ x.cx, p.t.name ∈ varsR x
 acy : ∀ c ∈ v.cl, ¬ c.s ∈ aboveR v c.s
theorem insts1_all (v : En) : ∀ (l : List In) (i : Nat), (insts1 v i l).1 = 0 → ∀ (k : Nat) (x : In), l[k]? = some x → (instR v (i + k) x).1 = 0
 | [], i, _, k, x, h => by simp at h
 | y :: l, i, h0, k, x, h => by
  rw [insts1] at h0
  by_cases hy : (instR v i y).1 ≠ 0
  ·rw [if_pos hy] at h0; exact absurd h0 hy
  rw [if_neg hy] at h0
  cases k with
  | zero => simp at h; subst h; simpa using hy
  | succ k =>
   have := insts1_all v l (i + 1) h0 k x (by simpa using h)
   rw [show i + (k + 1) = i + 1 + k by omega]; exact this
theorem ctxL0_all (v : En) (ns : List ByteArray) : ∀ (l pre : List Pr), ctxL0 v ns pre l = 0 → ∀ p ∈ l, p.t.name ∈ ns
 | [], pre, _, p, hp => by simp at hp
 | y :: l, pre, h, p, hp => by
  rw [ctxL0] at h
  split at h
  ·simp at h
  split at h
  ·simp at h
  rename_i _ hq
  split at h
  ·simp at h
  rcases List.mem_cons.1 hp with rfl | hp
  ·apply hasB_iff.1
   cases hh : hasB ns p.t.name with
   | true => rfl
   | false => exact absurd (Or.inr hh) hq
  ·exact ctxL0_all v ns l _ h p hp
theorem instR_zero {v : En} {i : Nat} {x : In} (h : (instR v i x).1 = 0) : ¬ instI v x.c x.hd.name < i ∧ ctxR v x = 0 := by
 unfold instR at h
 split at h
 ·simp at h
 rename_i hc
 cases hq : v.cl[(classI v x.c).toNat]? with
 | none =>
  obtain ⟨y, h1, _⟩ := findI_get (fun (c : Cl) => sameB c.s x.c) v.cl 0 (by unfold classI at hc; omega)
  unfold classI at hq
  simp at h1
  rw [hq] at h1; cases h1
 | some c =>
  rw [hq] at h
  simp only [] at h
  unfold instR1 at h
  split at h
  ·rename_i h1; exact absurd h h1
  split at h
  ·simp at h
  rename_i h2
  split at h
  ·rename_i h3; exact absurd h h3
  rename_i h3
  exact ⟨h2, by omega⟩
theorem findI_min {α : Type} (p : α → Bool) : ∀ (l : List α) (i k : Nat) (x : α), l[k]? = some x → p x = true → findI p l i ≤ i + k ∧ 0 ≤ findI p l i
 | [], i, k, x, h, _ => by simp at h
 | y :: l, i, k, x, h, hp => by
  rw [findI]
  split
  ·omega
  ·rename_i hy
   cases k with
   | zero => simp at h; subst h; exact absurd hp hy
   | succ k =>
    have := findI_min p l (i + 1) k x (by simpa using h) hp
    omega
theorem classes3_all (v : En) : ∀ l : List Cl, (classes3 v l).1 = 0 → ∀ c ∈ l, ¬ c.s ∈ aboveR v c.s
 | [], _, c, hc => by simp at hc
 | y :: l, h, c, hc => by
  rw [classes3] at h
  split at h
  ·simp at h
  rename_i hy
  rcases List.mem_cons.1 hc with rfl | hc
  ·exact fun q => hy (hasB_iff.2 q)
  ·exact classes3_all v l h c hc
theorem check_c {p : Pg} (hg : EnG (envOf p)) (h : (checkR p).1 = 0) : EnC (envOf p) := by
 unfold checkR at h
 dsimp only at h
 split at h
 ·rename_i q; exact absurd h q
 split at h
 ·rename_i q; exact absurd h q
 split at h
 ·rename_i q; exact absurd h q
 rename_i hcl hin
 have hcl : (classesR (envOf p)).1 = 0 := by omega
 have hin : (insts1 (envOf p) 0 (envOf p).ins).1 = 0 := by omega
 have hall : ∀ (i : Nat) (x : In), (envOf p).ins[i]? = some x → (instR (envOf p) i x).1 = 0 := fun i x hx => by
  have := insts1_all _ _ 0 hin i x hx
  simpa using this
 refine ⟨hg, fun i x hx => ?_, fun x hx q hq => ?_, ?_⟩
 ·have h1 := (instR_zero (hall i x hx)).1
  have h2 := findI_min (fun (y : In) => sameB y.c x.c && sameB y.hd.name x.hd.name) (envOf p).ins 0 i x hx (by simp [sameB])
  unfold instI at h1 ⊢
  omega
 ·obtain ⟨i, hi⟩ := List.mem_iff_getElem?.1 hx
  exact ctxL0_all _ _ _ _ (instR_zero (hall i x hi)).2 q hq
 ·unfold classesR at hcl
  split at hcl
  ·rename_i q; exact absurd hcl q
  split at hcl
  ·rename_i q; exact absurd hcl q
  split at hcl
  ·rename_i q; exact absurd hcl q
  rename_i q
  exact classes3_all _ _ (by omega)
def Edge (v : En) (c s : ByteArray) : Prop := 0 ≤ classI v c ∧ s ∈ supersOf v c
inductive Up (v : En) : ByteArray → ByteArray → Prop
 | one {c s : ByteArray} (h : Edge v c s) : Up v c s
 | step {c s x : ByteArray} (h : Edge v c s) (k : Up v s x) : Up v c x
theorem Up.trans {v : En} {a b c : ByteArray} (h : Up v a b) (k : Up v b c) : Up v a c := by
 induction h with
 | one h => exact .step h k
 | step h _ ih => exact .step h (ih k)
theorem overL_sound {O : ByteArray → List ByteArray → List ByteArray} {G : ByteArray → Prop} (HO : ∀ s met, G s → ∀ x ∈ O s met, x ∈ met ∨ G x) : ∀ (ss met : List ByteArray), (∀ s ∈ ss, G s) → ∀ x ∈ overL O ss met, x ∈ met ∨ G x
 | [], met, _, x, hx => .inl hx
 | s :: ss, met, h, x, hx => by
  unfold overL at hx
  by_cases hm : hasB met s = true
  ·rw [if_pos hm] at hx; exact overL_sound HO ss met (fun y hy => h y (by simp [hy])) x hx
  ·rw [if_neg hm] at hx
   rcases overL_sound HO ss _ (fun y hy => h y (by simp [hy])) x hx with q | q
   ·rcases HO s _ (h s (by simp)) x q with q | q
    ·rcases List.mem_append.1 q with q | q
     ·exact .inl q
     ·rw [List.mem_singleton.1 q]; exact .inr (h s (by simp))
    ·exact .inr q
   ·exact .inr q
theorem overF_sound (v : En) : ∀ (n : Nat) (c : ByteArray) (met : List ByteArray), ∀ x ∈ overF v n c met, x ∈ met ∨ Up v c x
 | 0, c, met, x, hx => .inl hx
 | n + 1, c, met, x, hx => by
  unfold overF at hx
  split at hx
  ·exact .inl hx
  ·rename_i hc
   exact overL_sound (G := fun x => Up v c x) (fun s met' hs x hx => by
    rcases overF_sound v n s met' x hx with q | q
    ·exact .inl q
    ·exact .inr (hs.trans q)) (supersOf v c) met (fun s hs => .one ⟨by omega, hs⟩) x hx
theorem overL_closed {v : En} {n : Nat} {O : ByteArray → List ByteArray → List ByteArray} (HG : ∀ s met, Grow (allSup v) met (O s met)) (HO : ∀ s met, lack (allSup v) met < n → (∀ y, Edge v s y → y ∈ O s met) ∧ (∀ y ∈ O s met, y ∉ met → ∀ z, Edge v y z → z ∈ O s met)) : ∀ (ss met : List ByteArray), (∀ s ∈ ss, s ∈ allSup v) → lack (allSup v) met ≤ n → (∀ y ∈ ss, y ∈ overL O ss met) ∧ (∀ y ∈ overL O ss met, y ∉ met → ∀ z, Edge v y z → z ∈ overL O ss met)
 | [], met, _, _ => ⟨by simp, fun y hy h => absurd hy h⟩
 | s :: ss, met, h, hl => by
  have hG := overL_grow HG ss
  unfold overL
  by_cases hm : hasB met s = true
  ·rw [if_pos hm]
   obtain ⟨h1, h2⟩ := overL_closed HG HO ss met (fun y hy => h y (by simp [hy])) hl
   refine ⟨fun y hy => ?_, h2⟩
   rcases List.mem_cons.1 hy with rfl | hy
   ·exact (hG met (fun y hy => h y (by simp [hy]))).2.2 _ (hasB_iff.1 hm)
   ·exact h1 y hy
  ·rw [if_neg hm]
   have hs := h s (by simp)
   have hlt := lack_lt hs hm
   have g1 := HG s (met ++ [s])
   have g2 := hG (O s (met ++ [s])) (fun y hy => h y (by simp [hy]))
   obtain ⟨k1, k2⟩ := HO s (met ++ [s]) (by omega)
   obtain ⟨h1, h2⟩ := overL_closed HG HO ss (O s (met ++ [s])) (fun y hy => h y (by simp [hy])) (by have := g1.2.1; omega)
   refine ⟨fun y hy => ?_, fun y hy hn z hz => ?_⟩
   ·rcases List.mem_cons.1 hy with rfl | hy
    ·exact g2.2.2 _ (g1.2.2 _ (by simp))
    ·exact h1 y hy
   ·by_cases hy1 : y ∈ O s (met ++ [s])
    ·by_cases e : y = s
     ·subst e; exact g2.2.2 _ (k1 z hz)
     ·exact g2.2.2 _ (k2 y hy1 (by simp [hn, e]) z hz)
    ·exact h2 y hy hy1 z hz
theorem overF_closed (v : En) : ∀ (n : Nat) (c : ByteArray) (met : List ByteArray), lack (allSup v) met < n → (∀ y, Edge v c y → y ∈ overF v n c met) ∧ (∀ y ∈ overF v n c met, y ∉ met → ∀ z, Edge v y z → z ∈ overF v n c met)
 | 0, c, met, h => by omega
 | n + 1, c, met, h => by
  unfold overF
  split
  ·rename_i hc
   exact ⟨fun y hy => absurd hy.1 (by omega), fun y hy hn => absurd hy hn⟩
  ·obtain ⟨h1, h2⟩ := overL_closed (n := n) (overF_grow v n) (fun s met hs => overF_closed v n s met hs) (supersOf v c) met (supersOf_sub v c) (by omega)
   exact ⟨fun y hy => h1 y hy.2, h2⟩
theorem above_iff (v : En) (c x : ByteArray) : x ∈ aboveR v c ↔ Up v c x := by
 constructor
 ·intro h
  rcases overF_sound v _ c [] x h with q | q
  ·simp at q
  ·exact q
 ·intro h
  obtain ⟨h1, h2⟩ := overF_closed v ((allSup v).length + 1) c [] (by rw [lack_nil]; omega)
  have h1 : ∀ y, Edge v c y → y ∈ aboveR v c := h1
  have h2 : ∀ y ∈ aboveR v c, ∀ z, Edge v y z → z ∈ aboveR v c := fun y hy => h2 y hy (by simp)
  have key : ∀ {a b : ByteArray}, Up v a b → (a = c ∨ a ∈ aboveR v c) → b ∈ aboveR v c := by
   intro a b k
   induction k with
   | one e =>
    rintro (rfl | q)
    ·exact h1 _ e
    ·exact h2 _ q _ e
   | step e _ ih =>
    rintro (rfl | q)
    ·exact ih (.inr (h1 _ e))
    ·exact ih (.inr (h2 _ q _ e))
  exact key h (.inl V)
theorem EnC.no_circle {v : En} (hv : EnC v) (c : ByteArray) : ¬ Up v c c := by
 intro h
 have h0 : 0 ≤ classI v c := by cases h with | one e => exact e.1 | step e _ => exact e.1
 obtain ⟨y, h1, h2, _⟩ := findI_get (fun (x : Cl) => sameB x.s c) v.cl 0 h0
 have := hv.acy y (Ui h1)
 rw [Vc.1 h2] at this
 exact this ((above_iff v c c).2 h)
def high (v : En) (c : ByteArray) : Nat := ((allSup v).filter fun s => hasB (aboveR v c) s).length
theorem filter_lt {α : Type} {p q : α → Bool} {l : List α} (h : ∀ x, p x = true → q x = true) {x : α} (hx : x ∈ l) (h1 : p x = false) (h2 : q x = true) : (l.filter p).length < (l.filter q).length := by
 induction l with
 | nil => simp at hx
 | cons y l ih =>
  have hle : ∀ l : List α, (l.filter p).length ≤ (l.filter q).length := by
   intro l
   induction l with
   | nil => simp
   | cons z l ih =>
    simp only [List.filter_cons]
    cases hp : p z with
    | true => simp [h z hp]; exact ih
    | false => cases hq : q z <;> simp <;> omega
  have := hle l
  simp only [List.filter_cons]
  rcases List.mem_cons.1 hx with rfl | hx
  ·simp [h1, h2]; omega
  ·have := ih hx
   cases hp : p y with
   | true => simp [h y hp]; omega
   | false => cases hq : q y <;> simp <;> omega
theorem EnC.high_lt {v : En} (hv : EnC v) {c s : ByteArray} (h : Edge v c s) : high v s < high v c := by
 refine filter_lt (fun x hx => ?_) (x := s) (supersOf_sub v c s h.2) ?_ ?_
 ·exact hasB_iff.2 ((above_iff v c x).2 (.step h ((above_iff v s x).1 (hasB_iff.1 hx))))
 ·cases q : hasB (aboveR v s) s with
  | false => rfl
  | true => exact absurd ((above_iff v s s).1 (hasB_iff.1 q)) (hv.no_circle s)
 ·exact hasB_iff.2 ((above_iff v c s).2 (.one h))
theorem up_next {v : En} {c x : ByteArray} (h : Up v c x) : 0 ≤ classI v c ∧ ∃ s ∈ supersOf v c, s = x ∨ x ∈ aboveR v s := by
 cases h with
 | one e => exact ⟨e.1, x, e.2, .inl rfl⟩
 | step e k => exact ⟨e.1, _, e.2, .inr ((above_iff v _ x).2 k)⟩
open Go.RowKit
theorem rPut_c (names : List ByteArray) (hnm : names.length ≤ 1000000) (ts : List Ty) (d : Nat) : ∀ t : Ty, t.size ≤ d → t.size ≤ 1000000 → PCall Tryz.prog 45 [.seq 1 (strs names), .seq 4 (Ty.cellss ts), .agg t.cells] (.agg (t.turn (putO names ts)).cells) := by
 induction d with
 | zero => intro t hd; have := Ty.size_pos t; omega
 | succ d ih =>
  rintro ⟨k, s, n, ks⟩ hd hmx
  have hl := Ty.cellss_len ks
  have hlt := Ty.cellss_len ts
  have hln := Xy names
  have hls := Ty.len_sizes ks
  rw [Ty.size] at hd hmx
  refine Zu Tryz.func45 V (by kernel_rfl) V (Ud V) ?_
  refine Yf ?_
  refine c_lens (t := 0) V (.seq _ _) (fun hmax => ?_)
  refine c_lens (t := 1) V (.seq _ _) (fun hmax1 => ?_)
  refine Zf (Zc (Za 5 V V V (op_boxe (cs' := [_, _, _, _]) V V V V ?_))); intro b5
  refine Za 6 V V V (Zy (cs' := [_, _, _, _]) V tz_25 V V ?_); intro b6
  refine Vq (Zb (Zf (Zf (Zc (Za 10 V V V (Zg V tf_25_0 V (Za 11 V V V (Zl (i := 1) V Xf V V V (Za 12 V V V (Yw V V V ?_)))))))))); intro c12 h12
  refine Vq (Zb ?_)
  rcases Zh h12 with ⟨rfl, g12⟩ | ⟨rfl, g12⟩
  ·refine Zn V (Zt (Zb (Zf ?_)))
   have hN : putO names ts (.mk k s n ks) = none := by
    first
     | exact putO_not g12
     | exact hu.elim (fun h => putO_out (by have h2 := h.2; rw [List.take_of_length_le (by omega)] at h2; rw [firstAt_out h2]; omega)) (fun h => h.2)
   refine Zc (Za 8 V V V (Ze V V (Vq (Zb (Zf (Zf (Zc (Za 9 V V V (Ze V V (Vq (Zb (Zw (ACode.ownNil (t := 8) 25 4 V ?_)))))))))))))
   refine c_loop (σ := Nat × Value) (fun zz => match zz with | (i, u) => [(0, .seq 1 (strs names)), (1, .seq 4 (Ty.cellss ts)), (5, .ptr b5 0), (6, .ptr b6 0), (8, .own u 4 (Ty.cellss (Ty.turns (putO names ts) (ks.take i)))), (9, .val (.int .i64 i))]) (fun zz => match zz with | (i, u) => [.own 25 4 u, .loc b6 zTy, .loc b5 (Ty.cells (.mk k s n ks))]) (fun zz => match zz with | (i, u) => i ≤ ks.length) (fun zz => match zz with | (i, u) => ks.length - i) ((0, .slice none 0 0)) ?_ ?_ ?_ ?_
   ·simp
   ·exact by4
   ·exact by3
   rintro ⟨i, u⟩ hI
   try dsimp only [List.cons_append, List.nil_append] at hI ⊢
   refine Zf (Zf (Zc (Za 36 V V V (Zd V V (Za 37 V V V (Zg V Xr V (Za 38 V V V (Zl (i := 2) V Wr V V V ?_))))))))
   refine Za 39 V V V (Yx V Vk V (.seq _ _) (fun n39 => ?_))
   refine Za 40 V V V (Yq V V V ?_); intro c40 h40
   refine Vq (Zb ?_)
   rcases Zh h40 with ⟨rfl, g40⟩ | ⟨rfl, g40⟩
   ·refine Zn V (Yy (Xa (Xs (Yz (Zb (Zf ?_))))))
    rw [List.take_of_length_le (by omega)]
    refine Zc (Za 54 V V V (Zx (cs' := [_, _, _, _]) (i := 2) V Xq V V V V (Za 55 V V V (Zd V V (Za 56 V V V (Yk (xs := [.tmp 54, .tmp 55]) V V (kids_c (.mk k s n ks) (Ty.turns (putO names ts) ks)) by1 ?_))))))
    refine Zq V V (Zm (cs' := [_, _, _, _]) (i := 1) V ts_25 V V V V V (Ud V) V (Vq (Zb (Ya ?_))))
    rw [Ty.turn_none hN]
    exact Ym (i := 1) V V V Xq V by2 by3 ⟨V, V⟩
   ·refine Zr V (Zt (Zb (Zf (Zw ?_))))
    obtain ⟨⟨k', s', n', ks'⟩, hx⟩ := Yu (l := ks) (i := i) (by omega)
    have hcx := Ty.cellss_get hx
    have hsz := Ty.size_at hx
    have H := ih (.mk k' s' n' ks') (by omega) (by omega)
    have he : Ty.cellss (Ty.turns (putO names ts) (ks.take (i + 1))) = Ty.cellss (Ty.turns (putO names ts) (ks.take i)) ++ [(Ty.turn (putO names ts) (.mk k' s' n' ks')).cells] := by rw [Wa hx, Ty.turns_snoc, Ty.cellss_app]; rfl
    generalize Ty.turn (putO names ts) (.mk k' s' n' ks') = r at H he
    obtain ⟨rk, rs, rn, rks⟩ := r
    refine Zc (Za 43 V V V (Zd V V (Za 44 V V V (Zd V V (Za 45 V V V (Zd V V (Za 46 V V V (Zg V Xr V (Za 47 V V V (Zl (i := 2) V Wr V V V (Za 48 V V V (Zd V V (Za 49 V V V (Yd V te_23 V (.seq _ _) V V (by assumption) ?_))))))))))))))
    refine Za 50 V V V (Yc (cs' := [_, _, _, _]) V Xq V V V (Za 51 V V V (Yk (xs := [.tmp 44, .tmp 45, .tmp 50]) V V (H) by1 ?_)))
    refine Za 52 V V V (Yb (xs := [.tmp 51]) el_23 V V V V V V (Ud V) ?_)
    refine Za 53 V V V (Xg (i := 0) el_23 V V V V (.seq _ _) (by simp [Ty.cellss_len, Ty.turns_len]; omega) ?_)
    intro u53
    refine Za 8 V V V (Ze V V (Vq (Yn (Zb (Zc (Za 41 V V V (Zd V V (Za 42 V V V (Yt V V V (Uh _ (by omega)) ?_)))))))))
    refine Za 9 V V V (Ze V V (Vq (Yv ?_)))
    exact ⟨(i + 1, u53), by simp; omega, by simp; omega, (by repeat' (first | exact SLe.nil _ | refine Ua V ?_ ?_ | exact Vx _ | exact Le.own _ _ _ | exact Le.nil _ | (refine Uc ?_; (rw [he]; rfl)) | (refine Le.own_seq ?_; (rw [he]; rfl)) | (refine Le.seq_eq ?_; (rw [he]; rfl)))), by3⟩
  ·refine Zr V (Zf (Zc (Za 7 V V V (Ze V V (Vq (Zb (Zw ?_)))))))
   refine c_loop (σ := Nat) (fun zz => match zz with | i => [(0, .seq 1 (strs names)), (1, .seq 4 (Ty.cellss ts)), (5, .ptr b5 0), (6, .ptr b6 0), (7, .val (.int .i64 i))]) (fun zz => match zz with | i => [.loc b6 zTy, .loc b5 (Ty.cells (.mk k s n ks))]) (fun zz => match zz with | i => i ≤ names.length + 1 ∧ (i ≤ names.length ∧ s ∉ names.take i ∨ i = names.length + 1 ∧ putO names ts (.mk k s n ks) = none)) (fun zz => match zz with | i => names.length + 1 - i) (0) ?_ ?_ ?_ ?_
   ·exact ⟨by omega, Or.inl ⟨by omega, by simp⟩⟩
   ·exact by4
   ·exact by3
   rintro i hI
   try dsimp only [List.cons_append, List.nil_append] at hI ⊢
   obtain ⟨hi, hu⟩ := hI
   refine Zf (Zf (Zc (Za 13 V V V (Zd V V (Za 14 V V V (Zd V V ?_))))))
   refine Za 15 V V V (Yx V tu_68 V (.seq _ _) (fun n15 => ?_))
   refine Za 16 V V V (Yq V V V ?_); intro c16 h16
   refine Vq (Zb ?_)
   rcases Zh h16 with ⟨rfl, g16⟩ | ⟨rfl, g16⟩
   ·refine Zn V (Yy (Xa (Xs (Yz (Zb (Zf ?_))))))
    have hN : putO names ts (.mk k s n ks) = none := by
     first
      | exact putO_not g12
      | exact hu.elim (fun h => putO_out (by have h2 := h.2; rw [List.take_of_length_le (by omega)] at h2; rw [firstAt_out h2]; omega)) (fun h => h.2)
    refine Zc (Za 8 V V V (Ze V V (Vq (Zb (Zf (Zf (Zc (Za 9 V V V (Ze V V (Vq (Zb (Zw (ACode.ownNil (t := 8) 25 4 V ?_)))))))))))))
    refine c_loop (σ := Nat × Value) (fun zz => match zz with | (i, u) => [(0, .seq 1 (strs names)), (1, .seq 4 (Ty.cellss ts)), (5, .ptr b5 0), (6, .ptr b6 0), (8, .own u 4 (Ty.cellss (Ty.turns (putO names ts) (ks.take i)))), (9, .val (.int .i64 i))]) (fun zz => match zz with | (i, u) => [.own 25 4 u, .loc b6 zTy, .loc b5 (Ty.cells (.mk k s n ks))]) (fun zz => match zz with | (i, u) => i ≤ ks.length) (fun zz => match zz with | (i, u) => ks.length - i) ((0, .slice none 0 0)) ?_ ?_ ?_ ?_
    ·simp
    ·exact by4
    ·exact by3
    rintro ⟨i, u⟩ hI
    try dsimp only [List.cons_append, List.nil_append] at hI ⊢
    refine Zf (Zf (Zc (Za 36 V V V (Zd V V (Za 37 V V V (Zg V Xr V (Za 38 V V V (Zl (i := 2) V Wr V V V ?_))))))))
    refine Za 39 V V V (Yx V Vk V (.seq _ _) (fun n39 => ?_))
    refine Za 40 V V V (Yq V V V ?_); intro c40 h40
    refine Vq (Zb ?_)
    rcases Zh h40 with ⟨rfl, g40⟩ | ⟨rfl, g40⟩
    ·refine Zn V (Yy (Xa (Xs (Yz (Zb (Zf ?_))))))
     rw [List.take_of_length_le (by omega)]
     refine Zc (Za 54 V V V (Zx (cs' := [_, _, _, _]) (i := 2) V Xq V V V V (Za 55 V V V (Zd V V (Za 56 V V V (Yk (xs := [.tmp 54, .tmp 55]) V V (kids_c (.mk k s n ks) (Ty.turns (putO names ts) ks)) by1 ?_))))))
     refine Zq V V (Zm (cs' := [_, _, _, _]) (i := 1) V ts_25 V V V V V (Ud V) V (Vq (Zb (Ya ?_))))
     rw [Ty.turn_none hN]
     exact Ym (i := 1) V V V Xq V by2 by3 ⟨V, V⟩
    ·refine Zr V (Zt (Zb (Zf (Zw ?_))))
     obtain ⟨⟨k', s', n', ks'⟩, hx⟩ := Yu (l := ks) (i := i) (by omega)
     have hcx := Ty.cellss_get hx
     have hsz := Ty.size_at hx
     have H := ih (.mk k' s' n' ks') (by omega) (by omega)
     have he : Ty.cellss (Ty.turns (putO names ts) (ks.take (i + 1))) = Ty.cellss (Ty.turns (putO names ts) (ks.take i)) ++ [(Ty.turn (putO names ts) (.mk k' s' n' ks')).cells] := by rw [Wa hx, Ty.turns_snoc, Ty.cellss_app]; rfl
     generalize Ty.turn (putO names ts) (.mk k' s' n' ks') = r at H he
     obtain ⟨rk, rs, rn, rks⟩ := r
     refine Zc (Za 43 V V V (Zd V V (Za 44 V V V (Zd V V (Za 45 V V V (Zd V V (Za 46 V V V (Zg V Xr V (Za 47 V V V (Zl (i := 2) V Wr V V V (Za 48 V V V (Zd V V (Za 49 V V V (Yd V te_23 V (.seq _ _) V V (by assumption) ?_))))))))))))))
     refine Za 50 V V V (Yc (cs' := [_, _, _, _]) V Xq V V V (Za 51 V V V (Yk (xs := [.tmp 44, .tmp 45, .tmp 50]) V V (H) by1 ?_)))
     refine Za 52 V V V (Yb (xs := [.tmp 51]) el_23 V V V V V V (Ud V) ?_)
     refine Za 53 V V V (Xg (i := 0) el_23 V V V V (.seq _ _) (by simp [Ty.cellss_len, Ty.turns_len]; omega) ?_)
     intro u53
     refine Za 8 V V V (Ze V V (Vq (Yn (Zb (Zc (Za 41 V V V (Zd V V (Za 42 V V V (Yt V V V (Uh _ (by omega)) ?_)))))))))
     refine Za 9 V V V (Ze V V (Vq (Yv ?_)))
     exact ⟨(i + 1, u53), by simp; omega, by simp; omega, (by repeat' (first | exact SLe.nil _ | refine Ua V ?_ ?_ | exact Vx _ | exact Le.own _ _ _ | exact Le.nil _ | (refine Uc ?_; (rw [he]; rfl)) | (refine Le.own_seq ?_; (rw [he]; rfl)) | (refine Le.seq_eq ?_; (rw [he]; rfl)))), by3⟩
   ·refine Zr V (Zt (Zb (Zf (Zw (Zf ?_)))))
    obtain ⟨y, hy⟩ := Yu (l := names) (i := i) (by omega)
    have hcy := strs_get hy
    refine Wo Wk V (Zs 19 V V (Zd V V ⟨V, V⟩) ?_)
    refine Zs 20 V V (Zd V V ⟨V, V⟩) ?_
    refine Zs 21 V V (Yd V te_68 V (.seq _ _) V V (by assumption) ⟨V, V⟩) ?_
    refine Zs 22 V V (Zp V Xd V V ⟨V, V⟩) ?_
    refine Zs 23 V V (Zg V Wg V ⟨V, V⟩) ?_
    refine Zs 24 V V (Zl (i := 1) V Xd V V V ⟨V, V⟩) ?_
    refine Wb 25 V V (fun _ q => Xt V V V q) ?_; intro c25 h25
    show AGo _ _ _ _ _ _ _
    refine Zb ?_
    rcases Zh h25 with ⟨rfl, g25⟩ | ⟨rfl, g25⟩
    ·refine Zn V (Zt (Yn (Zb (Zc (Za 17 V V V (Zd V V (Za 18 V V V (Yt V V V (Uh _ (by omega)) ?_))))))))
     refine Za 7 V V V (Ze V V (Vq (Yv ?_)))
     first | (rw [hln]; exact ⟨names.length + 1, ⟨by omega, Or.inr ⟨rfl, hB⟩⟩, by simp; omega, by4, by3⟩) | exact ⟨i + 1, ⟨by omega, by rcases hu with ⟨_, hu⟩ | hu; exact Or.inl ⟨by omega, not_mem_take hu hy g25⟩; omega⟩, by simp; omega, by4, by3⟩
    ·refine Zr V (Zf (Zf (Zc (Za 26 V V V (Zd V V (Za 27 V V V (Zd V V ?_)))))))
     refine Za 28 V V V (Yx V Vk V (.seq _ _) (fun n28 => ?_))
     refine Za 29 V V V (Yq V V V ?_); intro c29 h29
     refine Vq (Zb ?_)
     rcases Zh h29 with ⟨rfl, g29⟩ | ⟨rfl, g29⟩
     ·refine Zn V (Zt (Zb ?_))
      obtain ⟨_, hu⟩ : i ≤ names.length ∧ s ∉ names.take i := by rcases hu with hu | hu; exact hu; omega
      have hB : putO names ts (.mk k s n ks) = none := putO_big (by rw [firstAt_at hu (by rw [hy, g25])]; omega)
      refine Zc (Za 34 V V V (Zd V V ?_))
      refine Za 35 V V V (Yx V tu_68 V (.seq _ _) (fun n35 => ?_))
      refine Za 7 V V V (Ze V V (Vq (Yn (Zb (Zc (Za 17 V V V (Zd V V (Za 18 V V V (Yt V V V (Uh _ (by omega)) ?_)))))))))
      refine Za 7 V V V (Ze V V (Vq (Yv ?_)))
      first | (rw [hln]; exact ⟨names.length + 1, ⟨by omega, Or.inr ⟨rfl, hB⟩⟩, by simp; omega, by4, by3⟩) | exact ⟨i + 1, ⟨by omega, by rcases hu with ⟨_, hu⟩ | hu; exact Or.inl ⟨by omega, not_mem_take hu hy g25⟩; omega⟩, by simp; omega, by4, by3⟩
     ·refine Zr V (Zf ?_)
      obtain ⟨⟨yk, ys, yn, yks⟩, hz⟩ := Yu (l := ts) (i := i) (by omega)
      have hcz := Ty.cellss_get hz
      refine Zc (Za 30 V V V (Zd V V (Za 31 V V V (Zd V V (Za 32 V V V (Yd V te_23 V (.seq _ _) V V (by assumption) ?_))))))
      refine Za 33 V V V (Yc (cs' := [_, _, _, _]) V Xq V V V (Zq V V (Zm (cs' := [_, _, _, _]) (i := 0) V ts_25 V V V V V (Ud V) V (Vq (Zb (Ya ?_))))))
      obtain ⟨_, hu⟩ : i ≤ names.length ∧ s ∉ names.take i := by rcases hu with hu | hu; exact hu; omega
      have hR : Ty.turn (putO names ts) (.mk k s n ks) = .mk yk ys yn yks := by
       refine Ty.turn_some ?_
       rw [g12, putO_in (firstAt_at hu (by rw [hy, g25])), hz]
      rw [hR]
      exact Ym (i := 0) V V V Xq V by2 by3 ⟨V, V⟩
theorem rNeeds_out (v : En) (inst : Int) (t : Ty) (h : inst < 0 ∨ v.ins.length ≤ inst) : PCall Tryz.prog 18 [.agg v.cells, .val (.int .i64 inst), .agg t.cells] (.seq 5 []) := by
 obtain ⟨da, cl, ins⟩ := v
 obtain ⟨tk, ts, tn, tl⟩ := t
 have hli := In.cellss_len ins
 simp only [En.ins] at h
 simp only [En.cells, Ty.cells]
 refine Zu Tryz.func18 V (by kernel_rfl) V (Ud V) ?_
 refine Yf (Zf (Zc (Za 3 V V V (Xb (cs' := [_, _, _]) V V V V (Za 5 V V V (Xb (cs' := [_, _, _, _]) V V V V (Za 6 V V V (Ze V V (Vq (Zb (Zf (Zf (c_boold 39 (True) Wk V ?_ _ _ V ?_)))))))))))))
 ·skip
  refine Zs 12 V V (Zd V V ⟨V, V⟩) ?_
  refine Wb 13 V V (fun _ q => Yq V V V q) ?_; intro c13 h13
  refine Zs 14 V V (Zd V V ⟨V, V⟩) ?_
  rcases Zh h13 with ⟨rfl, g13⟩ | ⟨rfl, g13⟩
  ·skip
   refine Ye 15 V V V V (Zd V V ⟨V, V⟩) ?_
   refine Ye 16 V V V V (Zj V Vi V V ⟨V, V⟩) ?_
   refine Ye 17 V V V V (Zp V ta_36 V V ⟨V, V⟩) ?_
   refine Ye 18 V V V V (Yx V tu_36 V (.seq _ _) (fun _ => ⟨V, V⟩)) ?_
   refine Wp 19 V V V V (fun _ q => Wm V V V q) ?_; intro c19 h19
   refine Zs 20 V V (Zo V V V ⟨V, V⟩) ?_
   refine Zs 21 V V (Zd V V ⟨V, V⟩) ?_
   rcases Zh h19 with ⟨rfl, g19⟩ | ⟨rfl, g19⟩
   ·omega
   ·skip
    refine Zv 22 V V V V (Zv 23 V V V V (Zv 24 V V V V (Zs 25 V V (Zo V V V ⟨V, V⟩) ?_)))
    refine Zs 26 V V (Zd V V ⟨V, V⟩) ?_
    refine Zv 27 V V V V (Zv 28 V V V V (Zv 29 V V V V (Zv 30 V V V V (Zv 31 V V V V (Zv 32 V V V V (Zv 33 V V V V (Zv 34 V V V V (Zv 35 V V V V (Zv 36 V V V V (Zv 37 V V V V (Zv 38 V V V V ?_)))))))))))
    refine Zs 39 V V (Zo V V V ⟨V, V⟩) ?_
    show BoolQ _ _ _ _ _ _
    refine Ub V ?_ by5 by3
    simp
  ·skip
   refine Zv 15 V V V V (Zv 16 V V V V (Zv 17 V V V V (Zv 18 V V V V (Zv 19 V V V V (Zs 20 V V (Zo V V V ⟨V, V⟩) ?_)))))
   refine Zs 21 V V (Zd V V ⟨V, V⟩) ?_
   refine Zv 22 V V V V (Zv 23 V V V V (Zv 24 V V V V (Zs 25 V V (Zo V V V ⟨V, V⟩) ?_)))
   refine Zs 26 V V (Zd V V ⟨V, V⟩) ?_
   refine Zv 27 V V V V (Zv 28 V V V V (Zv 29 V V V V (Zv 30 V V V V (Zv 31 V V V V (Zv 32 V V V V (Zv 33 V V V V (Zv 34 V V V V (Zv 35 V V V V (Zv 36 V V V V (Zv 37 V V V V (Zv 38 V V V V ?_)))))))))))
   refine Zs 39 V V (Zo V V V ⟨V, V⟩) ?_
   show BoolQ _ _ _ _ _ _
   refine Ub V ?_ by5 by3
   simp
 intro c39 h39
 refine Zb ?_
 rcases Zh h39 with ⟨rfl, g39⟩ | ⟨rfl, g39⟩
 ·exact absurd trivial g39
 ·exact Zr V (Zf (Zc (Za 6 V V V (Ze V V (Vq (Zb (Ya (Yg V V (Le.nil _) (Vs _) ⟨V, V⟩))))))))
theorem rNeeds_in (v : En) (hv : EnG v) (i : Nat) (y : In) (hy : v.ins[i]? = some y) (t : Ty) : PCall Tryz.prog 18 [.agg v.cells, .val (.int .i64 i), .agg t.cells] (.seq 5 (Pr.cellss (if t.kind ≠ 3 ∨ t.kids.length ≠ y.hd.kids.length then [] else y.cx.map fun p => Pr.mk p.c (p.t.turn (putO (varsR y) t.kids))))) := by
 obtain ⟨hb1, _, hb3⟩ := hv.b.inss y (Ui hy)
 have hcv := hv.cv y (Ui hy)
 obtain ⟨da, cl, ins⟩ := v
 have hi := get_lt hy
 have hcy := In.cellss_get hy
 have hli := In.cellss_len ins
 simp only [En.ins] at hi hcy hy
 obtain ⟨tk, ts, tn, tl⟩ := t
 have hlt := Ty.cellss_len tl
 obtain ⟨yc, ⟨yk, ys, yn, yl⟩, ycx, ybs, yp⟩ := y
 have hly := Ty.cellss_len yl
 have hlp := Pr.cellss_len ycx
 have hb1 : ycx.length ≤ 100000 := hb1
 have hb3 : yl.length ≤ 200000 := hb3
 have hcv : CtxV ycx := hcv
 simp only [In.cells, Ty.cells, List.cons_append, List.nil_append] at hcy
 obtain ⟨R, hR⟩ : ∃ R, (if tk ≠ 3 ∨ tl.length ≠ yl.length then [] else ycx.map fun p => Pr.mk p.c (p.t.turn (putO (yl.map Ty.name) tl))) = R := ⟨_, rfl⟩
 have hR' : (if (Ty.mk tk ts tn tl).kind ≠ 3 ∨ (Ty.mk tk ts tn tl).kids.length ≠ (In.mk yc (Ty.mk yk ys yn yl) ycx ybs yp).hd.kids.length then [] else (In.mk yc (Ty.mk yk ys yn yl) ycx ybs yp).cx.map fun p => Pr.mk p.c (p.t.turn (putO (varsR (In.mk yc (Ty.mk yk ys yn yl) ycx ybs yp)) (Ty.mk tk ts tn tl).kids))) = R := hR
 rw [hR']
 simp only [En.cells, Ty.cells]
 refine Zu Tryz.func18 V (by kernel_rfl) V (Ud V) ?_
 refine Yf (Zf (Zc (Za 3 V V V (Xb (cs' := [_, _, _]) V V V V (Za 5 V V V (Xb (cs' := [_, _, _, _]) V V V V (Za 6 V V V (Ze V V (Vq (Zb (Zf (Zf (c_boold 39 (tk ≠ 3 ∨ tl.length ≠ yl.length) Wk V ?_ _ _ V ?_)))))))))))))
 ·skip
  refine Zs 12 V V (Zd V V ⟨V, V⟩) ?_
  refine Wb 13 V V (fun _ q => Yq V V V q) ?_; intro c13 h13
  refine Zs 14 V V (Zd V V ⟨V, V⟩) ?_
  rcases Zh h13 with ⟨rfl, g13⟩ | ⟨rfl, g13⟩
  ·skip
   refine Ye 15 V V V V (Zd V V ⟨V, V⟩) ?_
   refine Ye 16 V V V V (Zj V Vi V V ⟨V, V⟩) ?_
   refine Ye 17 V V V V (Zp V ta_36 V V ⟨V, V⟩) ?_
   refine Ye 18 V V V V (Yx V tu_36 V (.seq _ _) (fun _ => ⟨V, V⟩)) ?_
   refine Wp 19 V V V V (fun _ q => Wm V V V q) ?_; intro c19 h19
   refine Zs 20 V V (Zo V V V ⟨V, V⟩) ?_
   refine Zs 21 V V (Zd V V ⟨V, V⟩) ?_
   rcases Zh h19 with ⟨rfl, g19⟩ | ⟨rfl, g19⟩
   ·skip
    refine Ye 22 V V V V (Zj V tf_25_0 V V ⟨V, V⟩) ?_
    refine Ye 23 V V V V (Zp V Xf V V ⟨V, V⟩) ?_
    refine Wp 24 V V V V (fun _ q => Xw V V V q) ?_; intro c24 h24
    refine Zs 25 V V (Zo V V V ⟨V, V⟩) ?_
    refine Zs 26 V V (Zd V V ⟨V, V⟩) ?_
    rcases Zh h24 with ⟨rfl, g24⟩ | ⟨rfl, g24⟩
    ·skip
     refine Ye 27 V V V V (Zj V Xr V V ⟨V, V⟩) ?_
     refine Ye 28 V V V V (Zp V Wr V V ⟨V, V⟩) ?_
     refine Ye 29 V V V V (Yx V Vk V (.seq _ _) (fun _ => ⟨V, V⟩)) ?_
     refine Ye 30 V V V V (Zj V Vi V V ⟨V, V⟩) ?_
     refine Ye 31 V V V V (Zp V ta_36 V V ⟨V, V⟩) ?_
     refine Ye 32 V V V V (Zd V V ⟨V, V⟩) ?_
     refine Ye 33 V V V V (Yd V te_36 V (.seq _ _) V V (hcy) ⟨V, V⟩) ?_
     refine Ye 34 V V V V (Zj V Vd V V ⟨V, V⟩) ?_
     refine Ye 35 V V V V (Zj V Xr V V ⟨V, V⟩) ?_
     refine Ye 36 V V V V (Zp V Wr V V ⟨V, V⟩) ?_
     refine Ye 37 V V V V (Yx V Vk V (.seq _ _) (fun _ => ⟨V, V⟩)) ?_
     refine Wp 38 V V V V (fun _ q => Xw V V V q) ?_; intro c38 h38
     refine Zs 39 V V (Zo V V V ⟨V, V⟩) ?_
     show BoolQ _ _ _ _ _ _
     refine Ub V ?_ by5 by3
     first | (simp_all; done) | (simp_all; omega) | grind
    ·skip
     refine Zv 27 V V V V (Zv 28 V V V V (Zv 29 V V V V (Zv 30 V V V V (Zv 31 V V V V (Zv 32 V V V V (Zv 33 V V V V (Zv 34 V V V V (Zv 35 V V V V (Zv 36 V V V V (Zv 37 V V V V (Zv 38 V V V V ?_)))))))))))
     refine Zs 39 V V (Zo V V V ⟨V, V⟩) ?_
     show BoolQ _ _ _ _ _ _
     refine Ub V ?_ by5 by3
     first | (simp_all; done) | (simp_all; omega) | grind
   ·omega
  ·omega
 intro c39 h39
 refine Zb ?_
 rcases Zh h39 with ⟨rfl, g39⟩ | ⟨rfl, g39⟩
 ·refine Zn V (Zt (Zb (Zf ?_)))
  rw [if_neg g39] at hR
  refine Zc (Za 40 V V V (Zj V Vi V V (Za 41 V V V (Zp V ta_36 V V (Za 42 V V V (Zd V V (Za 43 V V V (Yd V te_36 V (.seq _ _) V V (hcy) (Za 44 V V V (Yc (cs' := [_, _, _, _, _, _, _, _]) V ta_73 V V V (Za 7 V V V (Zy (cs' := [_, _, _, _, _, _, _, _]) V tz_73 V V ?_)))))))))))); intro b7
  refine Zq V V (Zm (cs' := [_, _, _, _, _, _, _, _]) (i := 0) V ts_73 V V V V V (Ud V) V (Vq (Zb (Zf (Zc (Za 8 V V V (Ze V V (Vq (Zb (Zf (Zf (Zc (Za 9 V V V (Ze V V (Vq (Zb (Zw (Xx 9 1 ?_))))))))))))))))))
  apply Xp [0, 1, 2, 3, 4, 8, 9, 12, 13, 14, 15, 16, 17, 18, 19, 20, 21, 22, 23, 24, 25, 26, 27, 28, 29, 30, 31, 32, 33, 34, 35, 36, 37, 38, 39, 40, 41, 42, 43, 44, 45, 46, 47, 48, 49, 50, 51, 52, 53, 54, 55, 56, 57, 58, 59, 60, 61, 62] (σ := Nat × List ByteArray × Value) (fun zz => match zz with | (k, acc, u) => [(8, .own u 1 (strs acc)), (9, .val (.int .i64 k))]) (fun zz => match zz with | (k, acc, u) => [.loc b7 [.val (.string yc), .val (.int .i64 yk), .val (.string ys), .val (.int .i64 yn), .seq 4 (Ty.cellss yl), .seq 5 (Pr.cellss ycx), .seq 13 (Bi.cellss ybs), .val (.int .i64 yp)], .own 9 1 u]) (fun zz => match zz with | (k, acc, u) => k ≤ yl.length ∧ acc = (yl.take k).map Ty.name) (fun zz => match zz with | (k, acc, u) => yl.length - k) ((0, [], .slice none 0 0))
  ·repeat' (first | exact Ug | apply Ue rfl | apply Uf rfl)
  ·exact ⟨Nat.zero_le _, V⟩
  ·exact Ua V (Le.nilOwn 1) (Ua V (Vx _) (SLe.nil _))
  ·exact (Vw V)
  rintro ⟨k, acc, u⟩ hI
  try dsimp only [List.cons_append, List.nil_append] at hI ⊢
  obtain ⟨h1, ha⟩ := hI
  have hle : (strs acc).length ≤ 1000000 := by rw [Xy, ha, List.length_map, List.length_take]; omega
  refine Zf (Zf (Zc (Za 45 V V V (Zd V V (Za 46 V V V (Zg V Vd V (Za 47 V V V (Zg V Xr V (Za 48 V V V (Zl (i := 0) V Wr V V V ?_))))))))))
  refine Za 49 V V V (Yx V Vk V (.seq _ _) (fun n49 => ?_))
  refine Za 50 V V V (Yq V V V ?_); intro c50 h50
  refine Vq (Zb ?_)
  rcases Zh h50 with ⟨rfl, g50⟩ | ⟨rfl, g50⟩
  ·refine Zn V (Yy (Xa (Xs (Yz (Zb (Zf ?_))))))
   rw [List.take_of_length_le (by omega)] at ha
   have hal : acc.length ≤ 1000000 := by rw [ha, List.length_map]; omega
   refine Zc (Za 10 V V V (Ze V V (Vq (Zb (Zf (Zf (Zc (Za 11 V V V (Ze V V (Vq (Zb (Zw (c_le (al' := [(5, .cptr [.val (.int .i64 tk), .val (.string ts), .val (.int .i64 tn), .seq 4 (Ty.cellss tl)]), (7, .ptr b7 0), (8, .seq 1 (strs acc)), (10, .val (.slice none 0 0)), (11, .val (.int .i64 0))]) by4 (Vr _) ?_)))))))))))))
   refine Xx 27 5 ?_
   apply Xp [0, 1, 2, 3, 4, 9, 10, 11, 12, 13, 14, 15, 16, 17, 18, 19, 20, 21, 22, 23, 24, 25, 26, 27, 28, 29, 30, 31, 32, 33, 34, 35, 36, 37, 38, 39, 40, 41, 42, 43, 44, 45, 46, 47, 48, 49, 50, 51, 52, 53, 54, 55, 56, 57, 58, 59, 60, 61, 62, 63, 64, 65, 66, 67, 68, 69, 70, 71, 72, 73, 74, 75, 76, 77, 78, 79, 80, 81, 82, 83, 84, 85, 86, 87, 88, 89] (σ := Nat × List Pr × Value) (fun zz => match zz with | (k, out, w) => [(10, .own w 5 (Pr.cellss out)), (11, .val (.int .i64 k))]) (fun zz => match zz with | (k, out, w) => [.loc b7 [.val (.string yc), .val (.int .i64 yk), .val (.string ys), .val (.int .i64 yn), .seq 4 (Ty.cellss yl), .seq 5 (Pr.cellss ycx), .seq 13 (Bi.cellss ybs), .val (.int .i64 yp)], .own 27 5 w]) (fun zz => match zz with | (k, out, w) => k ≤ ycx.length ∧ out = (ycx.take k).map fun p => Pr.mk p.c (p.t.turn (putO (yl.map Ty.name) tl))) (fun zz => match zz with | (k, out, w) => ycx.length - k) ((0, [], .slice none 0 0))
   ·repeat' (first | exact Ug | apply Ue rfl | apply Uf rfl)
   ·exact ⟨Nat.zero_le _, V⟩
   ·exact Ua V (Le.nilOwn 5) (Ua V (Vx _) (SLe.nil _))
   ·exact (Vt _ (Vu _ (Vr _)))
   rintro ⟨k, out, w⟩ hI
   try dsimp only [List.cons_append, List.nil_append] at hI ⊢
   obtain ⟨h2, hb⟩ := hI
   have hle : (Pr.cellss out).length ≤ 1000000 := by rw [Pr.cellss_len, hb, List.length_map, List.length_take]; omega
   refine Zf (Zf (Zc (Za 63 V V V (Zd V V (Za 64 V V V (Zg V tf_73_2 V (Za 65 V V V (Zl (i := 0) V ta_22 V V V ?_))))))))
   refine Za 66 V V V (Yx V tu_22 V (.seq _ _) (fun n66 => ?_))
   refine Za 67 V V V (Yq V V V ?_); intro c67 h67
   refine Vq (Zb ?_)
   rcases Zh h67 with ⟨rfl, g67⟩ | ⟨rfl, g67⟩
   ·refine Zn V (Yy (Xa (Xs (Yz (Zb (Zf (Zc (Za 90 V V V (Zd V V (Za 6 V V V (Ze V V (Vq (Zb (Ya ?_))))))))))))))
    rw [List.take_of_length_le (by omega)] at hb; rw [← hR]; exact Yg rfl rfl (Le.own_seq (by rw [hb])) (Vs _) ⟨rfl, rfl⟩
   ·refine Zr V (Zt (Zb (Zf (Zw ?_))))
    obtain ⟨q, hq⟩ := Yu (l := ycx) (i := k) (by omega)
    obtain ⟨qc, qs, rfl⟩ := hcv q (Ui hq)
    have hcq := Pr.cellss_get hq
    have hsn := Wa hq
    have HP := rPut_c acc hal tl 1 (Ty.mk 1 qs 0 []) (by simp [Ty.size, Ty.sizes]) (by simp [Ty.size, Ty.sizes])
    obtain ⟨⟨rk, rs, rn, rl⟩, hr⟩ : ∃ t, (Ty.mk 1 qs 0 []).turn (putO acc tl) = t := ⟨_, rfl⟩
    rw [hr] at HP
    simp only [Pr.cells, Ty.cells] at hcq HP
    refine Xu [0, 1, 2, 3, 4, 5, 6, 7, 8, 9, 10, 11, 12, 13, 14, 15, 16, 17, 18, 19, 20] [19] [[], [], [1], [], [1, 2, 3], [1, 2, 3, 4], [1, 2, 3, 4, 5], [], [], [8], [], [10], [], [10, 11, 12], [10, 11, 12, 13], [10, 11, 12, 13, 14], [7, 8, 9, 10, 11, 12, 13, 14, 15], [1, 2, 3, 4, 5, 6, 7, 8, 9, 10, 11, 12, 13, 14, 15, 16], [1, 2, 3, 4, 5, 6, 7, 8, 9, 10, 11, 12, 13, 14, 15, 16, 17], [0, 1, 2, 3, 4, 5, 6, 7, 8, 9, 10, 11, 12, 13, 14, 15, 16, 17, 18], [0, 1, 2, 3, 4, 5, 6, 7, 8, 9, 10, 11, 12, 13, 14, 15, 16, 17, 18, 19]] Wk V (Zz 70 (none) (i := 0) V V V V V (Zd V V ⟨V, V⟩) ?_)
    refine Zz 71 (none) (i := 1) V V V V V (Zg V tf_73_2 V ⟨V, V⟩) ?_
    refine Zz 72 (some 0) (i := 2) V V V V V (Zl (i := 0) V ta_22 V V V ⟨V, V⟩) ?_
    refine Zz 73 (none) (i := 3) V V V V V (Zd V V ⟨V, V⟩) ?_
    refine Zz 74 (none) (i := 4) V V V V V (Yd V te_22 V (.seq _ _) V V (hcq) ⟨V, V⟩) ?_
    refine Zz 75 (none) (i := 5) V V V V V (Zj V Wy V V ⟨V, V⟩) ?_
    refine Zz 76 (none) (i := 6) V V V V V (Zp V Xd V V ⟨V, V⟩) ?_
    refine Zz 77 (none) (i := 7) V V V V V (Zd V V ⟨V, V⟩) ?_
    refine Zz 78 (none) (i := 8) V V V V V (Zj V Xr V V ⟨V, V⟩) ?_
    refine Zz 79 (none) (i := 9) V V V V V (Zp V Wr V V ⟨V, V⟩) ?_
    refine Zz 80 (none) (i := 10) V V V V V (Zg V tf_73_2 V ⟨V, V⟩) ?_
    refine Zz 81 (some 0) (i := 11) V V V V V (Zl (i := 0) V ta_22 V V V ⟨V, V⟩) ?_
    refine Zz 82 (none) (i := 12) V V V V V (Zd V V ⟨V, V⟩) ?_
    refine Zz 83 (none) (i := 13) V V V V V (Yd V te_22 V (.seq _ _) V V (hcq) ⟨V, V⟩) ?_
    refine Zz 84 (none) (i := 14) V V V V V (Zj V Wl V V ⟨V, V⟩) ?_
    refine Zz 85 (none) (i := 15) V V V V V (Yc (cs' := [_, _, _, _]) V Xq V V V ⟨V, V⟩) ?_
    refine Zz 86 (none) (i := 16) V V V V V (Yk (xs := [.tmp 77, .tmp 79, .tmp 85]) V V (HP) by1 ⟨V, V⟩) ?_
    refine Zz 87 (none) (i := 17) V V V V V (Yj (ns := [0, 1]) (xs := [.tmp 76, .tmp 86]) V tz_27 V tfl_27 V V V V ⟨V, V⟩) ?_
    refine Zz 88 (none) (i := 18) V V V V V (Yb (xs := [.tmp 87]) el_22 V V V V V V (Ud V) ⟨V, V⟩) ?_
    refine Xm 1 (i := 19) V V V V V (Xg (i := 0) el_22 V V V V (.seq _ _) by6 (fun u89 => ⟨_, V, ?_⟩))
    refine Zz 10 (none) (i := 20) V V V V V (Ze V V ⟨V, V⟩) ?_
    show AGo _ _ _ _ _ _ _
    refine Yn (Zb (Zc (Za 68 V V V (Zd V V (Za 69 V V V (Yt V V V (Uh _ (by omega)) ?_))))))
    refine Za 11 V V V (Ze V V (Vq (Yv ?_)))
    exact ⟨(k + 1, out ++ [Pr.mk qc (Ty.mk rk rs rn rl)], u89), ⟨by show k + 1 ≤ ycx.length; omega, by rw [hsn, List.map_append, hb, ← hr, ← ha]; rfl⟩, by show ycx.length - (k + 1) < ycx.length - k; omega, Ua V (Uc (by simp [Pr.cellss]; rfl)) by4, (Vw V)⟩
  ·refine Zr V (Zt (Zb (Zf (Zw ?_))))
   obtain ⟨⟨zk, zs, zn, zl⟩, hz⟩ := Yu (l := yl) (i := k) (by omega)
   have hcz := Ty.cellss_get hz
   have hsn := Wa hz
   simp only [Ty.cells] at hcz
   refine Zc (Za 53 V V V (Zd V V (Za 54 V V V (Zg V Vd V (Za 55 V V V (Zg V Xr V (Za 56 V V V (Zl (i := 0) V Wr V V V (Za 57 V V V (Zd V V (Za 58 V V V (Yd V te_23 V (.seq _ _) V V (hcz) (Za 59 V V V (Zj V Wg V V (Za 60 V V V (Zp V Xd V V (Za 61 V V V (Yb (xs := [.tmp 60]) Vo V V V V V V (Ud V) (Za 62 V V V (Xg (i := 1) Vo V V V V (.seq _ _) by6 ?_))))))))))))))))))))
   intro u62
   refine Za 8 V V V (Ze V V (Vq (Yn (Zb (Zc (Za 51 V V V (Zd V V (Za 52 V V V (Yt V V V (Uh _ (by omega)) ?_)))))))))
   refine Za 9 V V V (Ze V V (Vq (Yv ?_)))
   exact ⟨(k + 1, acc ++ [zs], u62), ⟨by show k + 1 ≤ yl.length; omega, by rw [hsn, List.map_append, ha]; rfl⟩, by show yl.length - (k + 1) < yl.length - k; omega, Ua V (Uc (by rw [strs_app]; rfl)) by4, (Vw V)⟩
 ·refine Zr V (Zf (Zc (Za 6 V V V (Ze V V (Vq (Zb (Ya ?_)))))))
  rw [if_pos g39] at hR; subst hR; exact Yg rfl rfl (Le.nil _) (Vs _) ⟨rfl, rfl⟩
theorem needsR_out {v : En} {inst : Int} {t : Ty} (h : inst < 0 ∨ v.ins.length ≤ inst) : needsR v inst t = [] := by
 unfold needsR
 cases hx : v.ins[inst.toNat]? with
 | none => rfl
 | some x =>
  have := get_lt hx
  simp only []
  rw [if_pos (.inl (by omega))]
theorem needsR_in {v : En} {i : Nat} {y : In} (hy : v.ins[i]? = some y) (t : Ty) : needsR v i t = if t.kind ≠ 3 ∨ t.kids.length ≠ y.hd.kids.length then [] else y.cx.map fun p => Pr.mk p.c (p.t.turn (putO (varsR y) t.kids)) := by
 unfold needsR
 rw [show (i : Int).toNat = i by omega, hy]
 simp only []
 by_cases q : t.kind ≠ 3 ∨ t.kids.length ≠ y.hd.kids.length
 ·rw [if_pos q, if_pos (.inr q)]
 ·rw [if_neg q, if_neg (fun e => e.elim (by omega) q)]
theorem Needs_c (v : En) (hv : EnG v) (inst : Int) (t : Ty) (ht : t.size ≤ 1000000) : PCall Tryz.prog 17 [.agg v.cells, .val (.int .i64 inst), .agg t.cells] (.seq 5 (Pr.cellss (needsR v inst t))) := by
 by_cases h : inst < 0 ∨ v.ins.length ≤ inst
 ·rw [needsR_out h]; exact Needs_out v inst t h
 ·obtain ⟨i, rfl⟩ : ∃ i : Nat, inst = i := ⟨inst.toNat, by omega⟩
  obtain ⟨y, hy⟩ := Yu (l := v.ins) (i := i) (by omega)
  rw [needsR_in hy]; exact Needs_in v hv i y hy t ht
theorem rNeeds_c (v : En) (hv : EnG v) (inst : Int) (t : Ty) : PCall Tryz.prog 18 [.agg v.cells, .val (.int .i64 inst), .agg t.cells] (.seq 5 (Pr.cellss (needsR v inst t))) := by
 by_cases h : inst < 0 ∨ v.ins.length ≤ inst
 ·rw [needsR_out h]; exact rNeeds_out v inst t h
 ·obtain ⟨i, rfl⟩ : ∃ i : Nat, inst = i := ⟨inst.toNat, by omega⟩
  obtain ⟨y, hy⟩ := Yu (l := v.ins) (i := i) (by omega)
  rw [needsR_in hy]; exact rNeeds_in v hv i y hy t
end Go.Proofs.YtknodnfbaofngaaGreat
namespace Go.Proofs.YtknodnfbaofngaaGreat
inductive Pf where
 | mk (k : Int) (n : Int) (c : ByteArray) (ks : List Pf)
def Pf.k : Pf → Int | .mk k _ _ _ => k
def Pf.n : Pf → Int | .mk _ n _ _ => n
def Pf.c : Pf → ByteArray | .mk _ _ c _ => c
def Pf.ks : Pf → List Pf | .mk _ _ _ ks => ks
mutual
def Pf.size : Pf → Nat
 | .mk _ _ _ ks => 1 + Pf.sizes ks
def Pf.sizes : List Pf → Nat
 | [] => 0
 | t :: ts => t.size + Pf.sizes ts
end
theorem Pf.size_mem {t : Pf} : ∀ {ts : List Pf}, t ∈ ts → t.size ≤ Pf.sizes ts
 | [], h => by simp at h
 | u :: ts, h => by
  rw [Pf.sizes]
  rcases List.mem_cons.1 h with rfl | h
  ·omega
  ·have := Pf.size_mem h; omega
mutual
def Pf.cells : Pf → List AV
 | .mk k n c ks => [.val (.int .i64 k), .val (.int .i64 n), .val (.string c), .seq 4 (Pf.cellss ks)]
def Pf.cellss : List Pf → List (List AV)
 | [] => []
 | t :: ts => t.cells :: Pf.cellss ts
end
theorem Pf.cellss_map : ∀ ts : List Pf, Pf.cellss ts = ts.map Pf.cells
 | [] => by simp [Pf.cellss]
 | t :: ts => by simp [Pf.cellss, Pf.cellss_map ts]
theorem Pf.cellss_len (ts : List Pf) : (Pf.cellss ts).length = ts.length := by rw [Pf.cellss_map]; simp
theorem Pf.cellss_get {ts : List Pf} {i : Nat} {t : Pf} (h : ts[i]? = some t) : (Pf.cellss ts)[i]? = some t.cells := by rw [Pf.cellss_map]; simp [h]
theorem Pf.cellss_app (a b : List Pf) : Pf.cellss (a ++ b) = Pf.cellss a ++ Pf.cellss b := by simp [Pf.cellss_map]
theorem Pf.cellss_app' (a : List Pf) (x : Pf) : Pf.cellss (a ++ [x]) = Pf.cellss a ++ [x.cells] := by simp [Pf.cellss_map]
theorem Pf.cells_len (x : Pf) : x.cells.length = 4 := by cases x; simp [Pf.cells]
/- equality that the kernel can evaluate -/
mutual
def Ty.eqb : Ty → Ty → Bool
 | .mk k s n ks, .mk k' s' n' ks' => decide (k = k') && sameB s s' && decide (n = n') && Ty.eqbs ks ks'
def Ty.eqbs : List Ty → List Ty → Bool
 | [], [] => true
 | t :: ts, u :: us => t.eqb u && Ty.eqbs ts us
 | _, _ => false
end
mutual
theorem Ty.eqb_iff : ∀ a b : Ty, a.eqb b = true ↔ a = b
 | .mk k s n ks, .mk k' s' n' ks' => by
  rw [Ty.eqb]
  simp only [Bool.and_eq_true, decide_eq_true_eq, Vc, Ty.eqbs_iff ks ks', Ty.mk.injEq, and_assoc]
theorem Ty.eqbs_iff : ∀ a b : List Ty, Ty.eqbs a b = true ↔ a = b
 | [], [] => by simp [Ty.eqbs]
 | [], _ :: _ => by simp [Ty.eqbs]
 | _ :: _, [] => by simp [Ty.eqbs]
 | t :: ts, u :: us => by
  rw [Ty.eqbs]
  simp only [Bool.and_eq_true, Ty.eqb_iff t u, Ty.eqbs_iff ts us, List.cons.injEq]
end
def prB (a b : Pr) : Bool := sameB a.c b.c && a.t.eqb b.t
theorem prB_iff {a b : Pr} : prB a b = true ↔ a = b := by
 obtain ⟨c, t⟩ := a
 obtain ⟨d, u⟩ := b
 unfold prB
 simp only [Bool.and_eq_true, Vc, Ty.eqb_iff, Pr.c, Pr.t, Pr.mk.injEq]
/- the way up -/
def upI (v : En) (to c : ByteArray) : Int := findI (fun s => sameB s to || hasB (aboveR v s) to) (supersOf v c) 0
def climbF (v : En) (to : ByteArray) : Nat → ByteArray → Pf → Pf
 | 0, _, x => x
 | n + 1, c, x => if c = to then x else match (supersOf v c)[(upI v to c).toNat]? with
  | none => x
  | some s => climbF v to n s (.mk 2 (upI v to c) c [x])
theorem up_at {v : En} {to c : ByteArray} (h : to ∈ aboveR v c) : ∃ s, 0 ≤ upI v to c ∧ 0 ≤ classI v c ∧ (supersOf v c)[(upI v to c).toNat]? = some s ∧ Edge v c s ∧ (s = to ∨ to ∈ aboveR v s) := by
 obtain ⟨h1, s, hs, h2⟩ := up_next ((above_iff v c to).1 h)
 obtain ⟨i, hi⟩ := List.mem_iff_getElem?.1 hs
 have h3 := (findI_min (fun s => sameB s to || hasB (aboveR v s) to) (supersOf v c) 0 i s hi (by simp only [Bool.or_eq_true, Vc, hasB_iff]; exact h2)).2
 obtain ⟨y, h4, h5, _⟩ := findI_get _ _ _ h3
 simp only [Bool.or_eq_true, Vc, hasB_iff] at h5
 exact ⟨y, h3, h1, h4, ⟨h1, Ui h4⟩, h5⟩
def upF (v : En) (c to : ByteArray) (x : Pf) : Pf := climbF v to (high v c + 1) c x
/- the document's Prove -/
def pf0 : Pf := .mk 0 0 kE []
def givI (gs : List Pr) (p : Pr) : Int := findI (fun g => prB g p) gs 0
def supI (v : En) (gs : List Pr) (p : Pr) : Int := findI (fun (g : Pr) => g.t.eqb p.t && hasB (aboveR v g.c) p.c) gs 0
def supP (v : En) (gs : List Pr) (p : Pr) : Pf × Bool := match gs[(supI v gs p).toNat]? with
 | none => (pf0, false)
 | some g => if supI v gs p < 0 then (pf0, false) else (upF v g.c p.c (.mk 1 (supI v gs p) kE []), true)
def proveF (v : En) (gs : List Pr) : Nat → Pr → Pf × Bool
 | 0, _ => (pf0, false)
 | n + 1, p => if 0 ≤ givI gs p then (.mk 1 (givI gs p) kE [], true)
  else if fitsR v p = true ∧ ((needsR v (instI v p.c p.t.name) p.t).all fun q => (proveF v gs n q).2) = true then (.mk 3 (instI v p.c p.t.name) kE ((needsR v (instI v p.c p.t.name) p.t).map fun q => (proveF v gs n q).1), true)
  else supP v gs p
theorem EnC.needs_size {v : En} (hv : EnC v) {i : Int} {t : Ty} {q : Pr} (h : q ∈ needsR v i t) : q.t.size < t.size := by
 unfold needsR at h
 cases hx : v.ins[i.toNat]? with
 | none => rw [hx] at h; simp at h
 | some x =>
  rw [hx] at h
  simp only [] at h
  split at h
  ·simp at h
  rename_i hc
  obtain ⟨p, hp, rfl⟩ := List.mem_map.1 h
  have hm := Ui hx
  have hvar := hv.var x hm p hp
  obtain ⟨c, s, rfl⟩ := hv.g.cv x hm p hp
  have h1 := (firstAt_nonneg s (varsR x) 0).2 hvar
  have h2 := firstAt_lt s (varsR x) 0
  have h3 : (varsR x).length = t.kids.length := by unfold varsR; rw [List.length_map]; omega
  obtain ⟨j, hj⟩ : ∃ j : Nat, firstAt s (varsR x) 0 = j := ⟨_, (Int.toNat_of_nonneg h1).symm⟩
  obtain ⟨y, hy⟩ := Yu (l := t.kids) (i := j) (by omega)
  show ((Ty.mk 1 s 0 []).turn (putO (varsR x) t.kids)).size < t.size
  rw [Ty.turn_some (by rw [putO_in hj]; exact hy)]
  exact Ty.size_kid (Ui hy)
open Go.RowKit
mutual
def Pf.cnt : Pf → Int → Int
 | .mk _ _ _ ks, most => Pf.cnts ks 1 most
def Pf.cnts : List Pf → Int → Int → Int
 | [], n, _ => n
 | t :: ts, n, most => if n < most then Pf.cnts ts (n + t.cnt (most - n)) most else n
end
mutual
theorem Pf.cnt_bd : ∀ (t : Pf) (m : Int), 1 ≤ m → 1 ≤ t.cnt m ∧ t.cnt m ≤ m
 | .mk k n c ks, m, h => by
  rw [Pf.cnt]
  exact Pf.cnts_bd ks 1 m (by omega) h
theorem Pf.cnts_bd : ∀ (ts : List Pf) (n m : Int), 1 ≤ n → n ≤ m → 1 ≤ Pf.cnts ts n m ∧ Pf.cnts ts n m ≤ m
 | [], n, m, h, h' => by rw [Pf.cnts]; omega
 | t :: ts, n, m, h, h' => by
  rw [Pf.cnts]
  split
  ·have hb := Pf.cnt_bd t (m - n) (by omega)
   exact Pf.cnts_bd ts (n + t.cnt (m - n)) m (by omega) (by omega)
  ·omega
end
theorem nodes_c (d : Nat) : ∀ (t : Pf) (most : Int), t.size ≤ d → 1 ≤ most → most ≤ 1000000 → PCall Tryz.prog 22 [.agg t.cells, .val (.int .i64 most)] (.val (.int .i64 (t.cnt most))) := by
 induction d with
 | zero => intro t most hd; cases t; simp [Pf.size] at hd
 | succ d ih =>
  rintro ⟨k, n, s, ks⟩ most hd h1 h2
  have hl := Pf.cellss_len ks
  rw [Pf.size] at hd
  refine Zu Tryz.func22 V (by kernel_rfl) V (Ud V) ?_
  refine Yf ?_
  refine c_lena (t := 0) (j := 3) V V (.seq _ _) (fun hmax => ?_)
  refine Zf (Zc (Za 2 V V V (Xb (cs' := [_, _, _, _]) V V V V (Za 4 V V V (Ze V V (Vq (Zb (Zf (Zc (Za 5 V V V (Ze V V (Vq (Zb (Zf (Zf (Zc (Za 6 V V V (Ze V V (Vq (Zb (Zw ?_)))))))))))))))))))))
  apply Xl [0, 3, 5, 6, 7, 8, 9, 10, 11, 12, 13, 14, 15, 16, 17, 18, 19, 20, 21, 22, 23, 24, 25, 26, 27, 28, 29] (σ := Nat × Int) (fun zz => match zz with | (i, m) => [(5, .val (.int .i64 m)), (6, .val (.int .i64 i))]) (fun zz => match zz with | (i, m) => i ≤ ks.length ∧ 1 ≤ m ∧ m ≤ most ∧ Pf.cnts (ks.drop i) m most = Pf.cnt (.mk k n s ks) most) (fun zz => match zz with | (i, m) => ks.length - i) ((0, 1))
  ·repeat' (first | exact Ug | apply Ue rfl | apply Uf rfl)
  ·exact ⟨Nat.zero_le _, by omega, h1, by rw [List.drop_zero, Pf.cnt]⟩
  ·exact by4
  rintro ⟨i, m⟩ hI
  try dsimp only [List.cons_append, List.nil_append] at hI ⊢
  obtain ⟨hi, m1, m2, hc⟩ := hI
  refine Zf (Zf (Xj 16 (i < ks.length ∧ m < most) ?_ _ _ V ?_))
  ·skip
   refine Za 7 V V V (Zd V V (Za 8 V V V (Zj V tf_30_3 V V (Za 9 V V V (Zp V ta_28 V V ?_)))))
   refine Za 10 V V V (Yx V tu_28 V (.seq _ _) (fun n10 => ?_))
   refine Za 11 V V V (Yq V V V ?_); intro c11 h11
   refine Za 12 V V V (Zd V V ?_)
   rcases Zh h11 with ⟨rfl, g11⟩ | ⟨rfl, g11⟩
   ·skip
    refine Zi 13 V V V V V (Zi 14 V V V V V (Zi 15 V V V V V (Za 16 V V V (Zo V V V (Vq (Ub V ?_ by5 by3))))))
    simp_all; omega
   ·skip
    refine Zk 13 V V V V V (Zd V V (Zk 14 V V V V V (Zd V V (Zk 15 V V V V V (Yq V V V ?_))))); intro c15 h15
    refine Za 16 V V V (Zo V V V (Vq (Ub V ?_ by5 by3)))
    simp_all; done
  intro c16 h16
  refine Zb ?_
  rcases Zh h16 with ⟨rfl, g16⟩ | ⟨rfl, g16⟩
  ·refine Zn V (Yy (Xa (Xs (Yz (Zb (Zf (Zc (Za 30 V V V (Zd V V (Za 4 V V V (Ze V V (Vq (Zb (Ya (Yg V V (Vx _) by3 ⟨?_, V⟩)))))))))))))))
   rw [← hc]
   by_cases e : i < ks.length
   ·obtain ⟨x, hx⟩ := Yu e
    rw [Xn hx, Pf.cnts, if_neg (fun q => g16 ⟨e, q⟩)]
   ·rw [List.drop_eq_nil_of_le (by omega), Pf.cnts]
  ·refine Zr V (Zt (Zb (Zf (Zw ?_))))
   obtain ⟨⟨k', n', s', ks'⟩, hx⟩ := Yu g16.1
   have hcx := Pf.cellss_get hx
   have hsz := Pf.size_mem (Ui hx)
   have hb := Pf.cnt_bd (.mk k' n' s' ks') (most - m) (by omega)
   refine Zc (Za 19 V V V (Zd V V (Za 20 V V V (Zj V tf_30_3 V V (Za 21 V V V (Zp V ta_28 V V (Za 22 V V V (Zd V V (Za 23 V V V (Yd V te_28 V (.seq _ _) V V (hcx) (Za 24 V V V (Yc (cs' := [_, _, _, _]) V Wu V V V (Za 25 V V V (Zd V V (Za 26 V V V (Zd V V (Za 27 V V V (op_sub V V V (Uh _ (by omega)) ?_))))))))))))))))))
   refine Za 28 V V V (Yk (xs := [.tmp 24, .tmp 27]) V V (ih (.mk k' n' s' ks') (most - m) (by omega) (by omega) (by omega)) by1 ?_)
   refine Za 29 V V V (Yt V V V (Uh _ (by omega)) ?_)
   refine Za 5 V V V (Ze V V (Vq (Yn (Zb (Zc (Za 17 V V V (Zd V V (Za 18 V V V (Yt V V V (Uh _ (by omega)) ?_)))))))))
   refine Za 6 V V V (Ze V V (Vq (Yv ?_)))
   refine ⟨(i + 1, m + Pf.cnt (.mk k' n' s' ks') (most - m)), ⟨by show i + 1 ≤ ks.length; omega, by show 1 ≤ m + _; omega, by show m + _ ≤ most; omega, ?_⟩, by show ks.length - (i + 1) < ks.length - i; omega, by4, by3⟩
   show Pf.cnts (ks.drop (i + 1)) (m + Pf.cnt (.mk k' n' s' ks') (most - m)) most = _
   rw [← hc, Xn hx, Pf.cnts, if_pos g16.2]
structure Ask where
 gs : List Pr
 p : Pr
 x : Pf
 deep : Int
 most : Int
def Ask.cells (a : Ask) : List AV := .seq 5 (Pr.cellss a.gs) :: (a.p.cells ++ (a.x.cells ++ [.val (.int .i64 a.deep), .val (.int .i64 a.most)]))
def Ask.small (a : Ask) : Prop := (∀ g ∈ a.gs, g.t.small 30 = true) ∧ a.gs.length ≤ 6 ∧ a.p.t.small 30 = true ∧ a.x.cnt 201 ≤ 200
theorem askSmall_c (a : Ask) : BCall Tryz.prog 10 [.agg a.cells] a.small := by
 obtain ⟨gs, ⟨pc, ⟨pk, ps, pn, pl⟩⟩, ⟨xk, xn, xc, xl⟩, deep, most⟩ := a
 have hl := Pr.cellss_len gs
 have H1 := Small_c (.mk pk ps pn pl) 30 (by decide) (by decide)
 have H2 := nodes_c _ (.mk xk xn xc xl) 201 (Nat.le_refl _) (by decide) (by decide)
 have H3 := fun g : Pr => Small_c g.t 30 (by decide) (by decide)
 unfold Ask.small
 simp only [Ask.cells, Pr.cells, Ty.cells, Pf.cells, Pr.t, List.cons_append, List.nil_append] at *
 obtain ⟨nx, hnx⟩ : ∃ z, (Pf.mk xk xn xc xl).cnt 201 = z := ⟨_, rfl⟩
 rw [hnx] at H2 ⊢
 refine Zu Tryz.func10 V (by kernel_rfl) V (Ud V) ?_
 refine Yf ?_
 refine c_lena (t := 0) (j := 0) V V (.seq _ _) (fun hmax => ?_)
 refine Zf (Zc (Za 1 V V V (Xb (cs' := [_, _, _, _, _, _, _, _, _, _, _, _]) V V V V (Za 2 V V V (Ze V V (Vq (Zb (Zf (Zf (Zc (Za 5 V V V (Zj V tf_32_0 V V (Za 6 V V V (Zp V ta_22 V V ?_))))))))))))))
 refine Za 7 V V V (Yx V tu_22 V (.seq _ _) (fun n7 => ?_))
 refine Za 8 V V V (Zd V V (Vq (Zb (Zw ?_))))
 apply Xl [0, 2, 3, 4, 5, 8, 9, 10, 11, 12, 13, 14, 15, 16] (σ := Nat) (fun zz => match zz with | i => [(8, .val (.int .i64 i))]) (fun zz => match zz with | i => i ≤ gs.length ∧ ∀ g ∈ gs.take i, g.t.small 30 = true) (fun zz => match zz with | i => gs.length - i) (0)
 ·repeat' (first | exact Ug | apply Ue rfl | apply Uf rfl)
 ·exact ⟨Nat.zero_le _, by simp⟩
 ·exact by4
 rintro i hI
 try dsimp only [List.cons_append, List.nil_append] at hI ⊢
 obtain ⟨hi, hf⟩ := hI
 refine Zf (Zc (Za 9 V V V (Yq V V V ?_))); intro c9 h9
 refine Vq (Zb (Zf ?_))
 rcases Zh h9 with ⟨rfl, g9⟩ | ⟨rfl, g9⟩
 ·refine Zn V (Yy (Xa (Xs (Yz (Zb (Zf ?_))))))
  rw [List.take_of_length_le (by omega)] at hf
  refine Xj 2 (gs.length ≤ 6 ∧ (Ty.mk pk ps pn pl).small 30 = true ∧ nx ≤ 200) ?_ _ _ V ?_
  ·skip
   refine Za 17 V V V (Zj V tf_32_0 V V (Za 18 V V V (Zp V ta_22 V V ?_)))
   refine Za 19 V V V (Yx V tu_22 V (.seq _ _) (fun n19 => ?_))
   refine Za 20 V V V (op_leq V V V ?_); intro c20 h20
   refine Za 21 V V V (Zd V V ?_)
   rcases Zh h20 with ⟨rfl, g20⟩ | ⟨rfl, g20⟩
   ·skip
    refine Zi 22 V V V V V (Zi 23 V V V V V (Zi 24 V V V V V (Zi 25 V V V V V (Za 26 V V V (Zo V V V (Za 27 V V V (Zd V V (Zi 28 V V V V V (Zi 29 V V V V V (Zi 30 V V V V V (Zi 31 V V V V V (Za 32 V V V (Zo V V V (Za 2 V V V (Ze V V ?_)))))))))))))))
    refine Vq (Ub V ?_ by5 by3)
    clear H1 H2 H3; first | (simp_all; done) | (simp_all; omega) | grind
   ·skip
    refine Zk 22 V V V V V (Zj V tf_32_1 V V (Zk 23 V V V V V (Zj V Wl V V (Zk 24 V V V V V (Yc (cs' := [_, _, _, _]) V Xq V V V (Zk 25 V V V V V (Yh (xs := [.tmp 24, .const (.int .i64 30)]) V V (H1) by1 ?_))))))); intro c25 h25
    refine Za 26 V V V (Zo V V V (Za 27 V V V (Zd V V ?_)))
    rcases Zh h25 with ⟨rfl, g25⟩ | ⟨rfl, g25⟩
    ·skip
     refine Zi 28 V V V V V (Zi 29 V V V V V (Zi 30 V V V V V (Zi 31 V V V V V (Za 32 V V V (Zo V V V (Za 2 V V V (Ze V V (Vq (Ub V ?_ by5 by3)))))))))
     clear H1 H2 H3; first | (simp_all; done) | (simp_all; omega) | grind
    ·skip
     refine Zk 28 V V V V V (Zj V tf_32_2 V V (Zk 29 V V V V V (Yc (cs' := [_, _, _, _]) V Wu V V V (Zk 30 V V V V V (Yk (xs := [.tmp 29, .const (.int .i64 201)]) V V (H2) by1 ?_)))))
     refine Zk 31 V V V V V (op_leq V V V ?_); intro c31 h31
     refine Za 32 V V V (Zo V V V (Za 2 V V V (Ze V V (Vq (Ub V ?_ by5 by3)))))
     clear H1 H2 H3; first | (simp_all; done) | (simp_all; omega) | grind
  intro c2 h2
  refine Zb (Ya ?_)
  exact Yg V V (Vx _) by3 ⟨⟨_, h2.trans ⟨fun q => ⟨hf, q⟩, fun q => q.2⟩, V⟩, V⟩
 ·refine Zr V (Zt (Zb (Zf (Zw (Zf ?_)))))
  obtain ⟨⟨gc, ⟨gtk, gts, gtn, gtl⟩⟩, hxg⟩ := Yu (l := gs) (i := i) by7
  have hcg := Pr.cellss_get hxg
  have hmg := Ui hxg
  have HGg := H3 (Pr.mk gc ⟨gtk, gts, gtn, gtl⟩)
  simp only [Ty.cells] at HGg
  have hsg := Wa hxg
  refine Zc (Za 10 V V V (Yd V te_22 V (.seq _ _) V V (hcg) (Za 11 V V V (Yc (cs' := [_, _, _, _, _]) V ta_27 V V V (Za 4 V V V (Zy (cs' := [_, _, _, _, _]) V tz_27 V V ?_)))))); intro b4
  refine Zq V V (Zm (cs' := [_, _, _, _, _]) (i := 0) V ts_27 V V V V V (Ud V) V (Vq (Zb (Zf (Zc (Za 12 V V V (Zg V Wl V (Za 13 V V V (Zx (cs' := [_, _, _, _]) (i := 0) V Xq V V V V (Za 14 V V V (Yh (xs := [.tmp 13, .const (.int .i64 30)]) V V (HGg) by1 ?_))))))))))); intro c14 h14
  refine Za 15 V V V (We V V ?_); intro c15 h15
  try replace h15 := nott h15 h14
  refine Vq (Zb ?_)
  rcases Zh h15 with ⟨rfl, g15⟩ | ⟨rfl, g15⟩
  ·refine Zn V (Zt (Yn (Zb (Zc (Za 16 V V V (Yt V V V (Uh _ (by omega)) ?_))))))
   refine Za 8 V V V (Zd V V (Vq (Yv ?_)))
   exact ⟨i + 1, ⟨by show i + 1 ≤ gs.length; omega, fun g hg => by rw [hsg] at hg; exact (List.mem_append.1 hg).elim (hf g) (fun q => by rw [List.mem_singleton.1 q]; exact Classical.not_not.1 g15)⟩, by show gs.length - (i + 1) < gs.length - i; omega, by4, by3⟩
  ·refine Zr V (Zf (Zc (Za 2 V V V (Ze V V (Vq (Zb (Ya ?_)))))))
   exact Yg V V (Vx _) by3 ⟨⟨false, by simp only [Bool.false_eq_true, false_iff]; exact fun q => g15 (q.1 _ hmg), V⟩, V⟩
theorem rel_agg' {F : EH} {v : Value} {cs : List AV} (hl : cs.length ≠ 1) (h : Rels F cs v.cells.toList) (h1 : Ones v.cells.toList) : Rel F (.agg cs) v := by
 refine rel_agg ?_ h h1
 have := h.len
 cases v <;> first | exact ⟨_, rfl⟩ | (exfalso; exact hl (by rw [this]; rfl))
theorem cellsOf_pr : Tryz.prog.cellsOf 27 = 5 := by kernel_rfl
theorem cellsOf_pf : Tryz.prog.cellsOf 30 = 4 := by kernel_rfl
theorem shape_pr {fuel : Nat} {cs : List AV} (h : ShapeC Tryz.prog fuel 27 cs) : ∃ t : Pr, cs = t.cells := by
 obtain ⟨n, hn, h⟩ := shape_struct Tryz.underlying27 h
 simp only [ShapeF] at h
 obtain ⟨a1, b1, rfl, h1, a2, b2, rfl, h2, rfl⟩ := h
 obtain ⟨s, _, rfl⟩ := shape_str Wq h1
 obtain ⟨t, rfl⟩ := shape_ty _ _ h2
 exact ⟨.mk s t, by simp [Pr.cells]⟩
theorem shape_prs {fuel : Nat} {cs : List AV} (h : ShapeC Tryz.prog fuel 22 cs) : ∃ ts : List Pr, cs = [.seq 5 (Pr.cellss ts)] := by
 obtain ⟨n', es, _, rfl, h5⟩ := shape_slice tu_22 h
 obtain ⟨ts, rfl⟩ := pick_all (f := Pr.cells) (fun x hx => shape_pr (h5 x hx))
 exact ⟨ts, by rw [cellsOf_pr, ← Pr.cellss_map]⟩
theorem shape_pf (fuel : Nat) : ∀ cs, ShapeC Tryz.prog fuel 30 cs → ∃ t : Pf, cs = t.cells := by
 induction fuel using Nat.strongRecOn with
 | _ fuel ih =>
  intro cs h
  obtain ⟨n, hn, h⟩ := shape_struct Tryz.underlying30 h
  simp only [ShapeF] at h
  obtain ⟨a1, b1, rfl, h1, a2, b2, rfl, h2, a3, b3, rfl, h3, a4, b4, rfl, h4, rfl⟩ := h
  obtain ⟨k, _, rfl⟩ := shape_int tu_3 h1
  obtain ⟨m, _, rfl⟩ := shape_int tu_3 h2
  obtain ⟨s, _, rfl⟩ := shape_str Wq h3
  obtain ⟨n', es, hn', rfl, h5⟩ := shape_slice tu_28 h4
  obtain ⟨ts, rfl⟩ := pick_all (f := Pf.cells) (fun x hx => ih n' (by omega) x (h5 x hx))
  refine ⟨.mk k m s ts, ?_⟩
  rw [cellsOf_pf, ← Pf.cellss_map]
  simp [Pf.cells]
theorem shape_ask {fuel : Nat} {cs : List AV} (h : ShapeC Tryz.prog fuel 32 cs) : ∃ a : Ask, cs = a.cells := by
 obtain ⟨n, hn, h⟩ := shape_struct Tryz.underlying32 h
 simp only [ShapeF] at h
 obtain ⟨a1, b1, rfl, h1, a2, b2, rfl, h2, a3, b3, rfl, h3, a4, b4, rfl, h4, a5, b5, rfl, h5, rfl⟩ := h
 obtain ⟨gs, rfl⟩ := shape_prs h1
 obtain ⟨p, rfl⟩ := shape_pr h2
 obtain ⟨x, rfl⟩ := shape_pf _ _ h3
 obtain ⟨d, _, rfl⟩ := shape_int tu_3 h4
 obtain ⟨m, _, rfl⟩ := shape_int tu_3 h5
 exact ⟨⟨gs, p, x, d, m⟩, by simp [Ask.cells]⟩
theorem Ask.cells_len (a : Ask) : a.cells.length = 12 := by
 obtain ⟨gs, ⟨pc, ⟨pk, ps, pn, pl⟩⟩, ⟨xk, xn, xc, xl⟩, deep, most⟩ := a
 rfl
abbrev S12 : List TypeId := [9, 3, 25, 23, 27, 22, 30, 28, 32]
theorem closed12 : closedT Tryz.prog S12 = true := by kernel_rfl
end Go.Proofs.YtknodnfbaofngaaGreat
namespace Go.Proofs.YtknodnfbaofngaaGreat
open Go.RowKit
theorem rSame_c (a b : Pr) : BCall Tryz.prog 34 [.agg a.cells, .agg b.cells] (a = b) := by
 have H := SameType_c a.t b.t
 obtain ⟨ac, at_⟩ := a
 obtain ⟨bc, bt⟩ := b
 simp only [Pr.t] at H
 have he : (Pr.mk ac at_ = Pr.mk bc bt) ↔ (ac = bc ∧ at_ = bt) := by simp
 rw [show (Pr.mk ac at_ = Pr.mk bc bt) = (ac = bc ∧ at_ = bt) from propext he]
 generalize hp : (at_ = bt) = p at *
 clear he hp
 obtain ⟨ak, as_, an, al⟩ := at_
 obtain ⟨bk, bs, bn, bl⟩ := bt
 simp only [Pr.cells, Ty.cells] at H ⊢
 refine Zu Tryz.func34 V (by kernel_rfl) V (Ud V) ?_
 refine Yf (Zf (Zc (Za 2 V V V (Xb (cs' := [_, _, _, _, _]) V V V V (Za 3 V V V (Xb (cs' := [_, _, _, _, _]) V V V V (Za 4 V V V (Ze V V (Vq (Zb (Zf (Xj 4 (ac = bc ∧ p) ?_ _ _ V ?_))))))))))))
 ·skip
  refine Za 5 V V V (Zj V Wy V V (Za 6 V V V (Zp V Xd V V (Za 7 V V V (Zj V Wy V V (Za 8 V V V (Zp V Xd V V (Za 9 V V V (Xt V V V ?_))))))))); intro c9 h9
  refine Za 10 V V V (Zd V V ?_)
  rcases Zh h9 with ⟨rfl, g9⟩ | ⟨rfl, g9⟩
  ·skip
   refine Zi 11 V V V V V (Zi 12 V V V V V (Zi 13 V V V V V (Zi 14 V V V V V (Zi 15 V V V V V (Za 16 V V V (Zo V V V (Za 4 V V V (Ze V V (Vq (Ub V ?_ by5 by3))))))))))
   clear H; first | (simp_all; done) | grind
  ·skip
   refine Zk 11 V V V V V (Zj V Wl V V (Zk 12 V V V V V (Yc (cs' := [_, _, _, _]) V Xq V V V (Zk 13 V V V V V (Zj V Wl V V (Zk 14 V V V V V (Yc (cs' := [_, _, _, _]) V Xq V V V (Zk 15 V V V V V (Yh (xs := [.tmp 12, .tmp 14]) V V (H) by1 ?_))))))))); intro c15 h15
   refine Za 16 V V V (Zo V V V (Za 4 V V V (Ze V V (Vq (Ub V ?_ by5 by3)))))
   clear H; first | (simp_all; done) | grind
 intro c4 h4
 exact Zb (Ya (Yg V V (Vx _) by3 ⟨⟨_, h4, V⟩, V⟩))
theorem rFits_c (x : In) (p : Pr) : BCall Tryz.prog 35 [.agg x.cells, .agg p.cells] (x.c = p.c ∧ p.t.kind = 3 ∧ x.hd.name = p.t.name ∧ x.hd.kids.length = p.t.kids.length) := by
 obtain ⟨xc, ⟨xk, xs, xn, xl⟩, xcx, xbs, xp⟩ := x
 obtain ⟨pc, ⟨pk, ps, pn, pl⟩⟩ := p
 have hx := Ty.cellss_len xl
 have hp := Ty.cellss_len pl
 simp only [In.cells, Pr.cells, Ty.cells, In.c, In.hd, Pr.c, Pr.t, Ty.kind, Ty.name, Ty.kids, List.cons_append, List.nil_append]
 refine Zu Tryz.func35 V (by kernel_rfl) V (Ud V) ?_
 refine Yf (Zf (Zc (Za 2 V V V (Xb (cs' := [_, _, _, _, _, _, _, _]) V V V V (Za 3 V V V (Xb (cs' := [_, _, _, _, _]) V V V V (Za 4 V V V (Ze V V (Vq (Zb (Zf (Xj 4 (xc = pc ∧ pk = 3 ∧ xs = ps ∧ xl.length = pl.length) ?_ _ _ V ?_))))))))))))
 ·skip
  refine Za 5 V V V (Zj V tf_73_0 V V (Za 6 V V V (Zp V Xd V V (Za 7 V V V (Zj V Wy V V (Za 8 V V V (Zp V Xd V V (Za 9 V V V (Xt V V V ?_))))))))); intro c9 h9
  refine Za 10 V V V (Zd V V ?_)
  rcases Zh h9 with ⟨rfl, g9⟩ | ⟨rfl, g9⟩
  ·skip
   refine Zi 11 V V V V V (Zi 12 V V V V V (Zi 13 V V V V V (Zi 14 V V V V V (Za 15 V V V (Zo V V V (Za 16 V V V (Zd V V (Zi 17 V V V V V (Zi 18 V V V V V (Zi 19 V V V V V (Zi 20 V V V V V (Zi 21 V V V V V (Zi 22 V V V V V ?_)))))))))))))
   refine Zi 23 V V V V V (Za 24 V V V (Zo V V V (Za 25 V V V (Zd V V (Zi 26 V V V V V (Zi 27 V V V V V (Zi 28 V V V V V (Zi 29 V V V V V (Zi 30 V V V V V (Zi 31 V V V V V (Zi 32 V V V V V (Zi 33 V V V V V (Zi 34 V V V V V ?_)))))))))))))
   refine Za 35 V V V (Zo V V V (Za 4 V V V (Ze V V (Vq (Ub V ?_ by5 by3)))))
   first | (simp_all; done) | (simp_all; omega) | grind
  ·skip
   refine Zk 11 V V V V V (Zj V Wl V V (Zk 12 V V V V V (Zj V tf_25_0 V V (Zk 13 V V V V V (Zp V Xf V V (Zk 14 V V V V V (Yw V V V ?_))))))); intro c14 h14
   refine Za 15 V V V (Zo V V V (Za 16 V V V (Zd V V ?_)))
   rcases Zh h14 with ⟨rfl, g14⟩ | ⟨rfl, g14⟩
   ·skip
    refine Zi 17 V V V V V (Zi 18 V V V V V (Zi 19 V V V V V (Zi 20 V V V V V (Zi 21 V V V V V (Zi 22 V V V V V (Zi 23 V V V V V (Za 24 V V V (Zo V V V (Za 25 V V V (Zd V V (Zi 26 V V V V V (Zi 27 V V V V V (Zi 28 V V V V V ?_)))))))))))))
    refine Zi 29 V V V V V (Zi 30 V V V V V (Zi 31 V V V V V (Zi 32 V V V V V (Zi 33 V V V V V (Zi 34 V V V V V (Za 35 V V V (Zo V V V (Za 4 V V V (Ze V V (Vq (Ub V ?_ by5 by3)))))))))))
    first | (simp_all; done) | (simp_all; omega) | grind
   ·skip
    refine Zk 17 V V V V V (Zj V Vd V V (Zk 18 V V V V V (Zj V Wg V V (Zk 19 V V V V V (Zp V Xd V V (Zk 20 V V V V V (Zj V Wl V V (Zk 21 V V V V V (Zj V Wg V V (Zk 22 V V V V V (Zp V Xd V V (Zk 23 V V V V V (Xt V V V ?_))))))))))))); intro c23 h23
    refine Za 24 V V V (Zo V V V (Za 25 V V V (Zd V V ?_)))
    rcases Zh h23 with ⟨rfl, g23⟩ | ⟨rfl, g23⟩
    ·skip
     refine Zi 26 V V V V V (Zi 27 V V V V V (Zi 28 V V V V V (Zi 29 V V V V V (Zi 30 V V V V V (Zi 31 V V V V V (Zi 32 V V V V V (Zi 33 V V V V V (Zi 34 V V V V V (Za 35 V V V (Zo V V V (Za 4 V V V (Ze V V (Vq ?_)))))))))))))
     refine Ub V ?_ by5 by3
     first | (simp_all; done) | (simp_all; omega) | grind
    ·skip
     refine Zk 26 V V V V V (Zj V Vd V V (Zk 27 V V V V V (Zj V Xr V V (Zk 28 V V V V V (Zp V Wr V V ?_)))))
     refine Zk 29 V V V V V (Yx V Vk V (.seq _ _) (fun n29 => ?_))
     refine Zk 30 V V V V V (Zj V Wl V V (Zk 31 V V V V V (Zj V Xr V V (Zk 32 V V V V V (Zp V Wr V V ?_)))))
     refine Zk 33 V V V V V (Yx V Vk V (.seq _ _) (fun n33 => ?_))
     refine Zk 34 V V V V V (Yw V V V ?_); intro c34 h34
     refine Za 35 V V V (Zo V V V (Za 4 V V V (Ze V V (Vq (Ub V ?_ by5 by3)))))
     first | (simp_all; done) | (simp_all; omega) | grind
 intro c4 h4
 exact Zb (Ya (Yg V V (Vx _) by3 ⟨⟨_, h4, V⟩, V⟩))
theorem SameProof_c : ∀ (d : Nat) (x : Pf), x.size ≤ d → BCall Tryz.prog 13 [.agg x.cells, .agg x.cells] True
 | 0, x, h => by cases x; simp [Pf.size] at h
 | d + 1, x, h => by
  have IH := SameProof_c d
  obtain ⟨k, n, c, l⟩ := x
  have hl := Pf.cellss_len l
  rw [Pf.size] at h
  have IH : ∀ x ∈ l, BCall Tryz.prog 13 [.agg x.cells, .agg x.cells] True := fun x hx => IH x (by have := Pf.size_mem hx; omega)
  simp only [Pf.cells]
  refine Zu Tryz.func13 V (by kernel_rfl) V (Ud V) ?_
  refine Yf ?_
  refine c_lena (t := 0) (j := 3) V V (.seq _ _) (fun hmax => ?_)
  refine Zf (Zc (Za 2 V V V (Xb (cs' := [_, _, _, _]) V V V V (Za 3 V V V (Xb (cs' := [_, _, _, _]) V V V V (Za 4 V V V (Ze V V (Vq (Zb (Zf (Zf (Xj 33 (False) ?_ _ _ V ?_))))))))))))
  ·skip
   refine Za 6 V V V (Zj V tf_30_0 V V (Za 7 V V V (Zp V Xf V V (Za 8 V V V (Zj V tf_30_0 V V (Za 9 V V V (Zp V Xf V V (Za 10 V V V (Xw V V V ?_))))))))); intro c10 h10
   refine Za 11 V V V (Zd V V ?_)
   rcases Zh h10 with ⟨rfl, g10⟩ | ⟨rfl, g10⟩
   ·skip
    refine Zk 12 V V V V V (Zj V tf_30_1 V V (Zk 13 V V V V V (Zp V Xf V V (Zk 14 V V V V V (Zj V tf_30_1 V V (Zk 15 V V V V V (Zp V Xf V V (Zk 16 V V V V V (Xw V V V ?_))))))))); intro c16 h16
    refine Za 17 V V V (Zo V V V (Za 18 V V V (Zd V V ?_)))
    rcases Zh h16 with ⟨rfl, g16⟩ | ⟨rfl, g16⟩
    ·skip
     refine Zk 19 V V V V V (Zj V tf_30_2 V V (Zk 20 V V V V V (Zp V Xd V V (Zk 21 V V V V V (Zj V tf_30_2 V V (Zk 22 V V V V V (Zp V Xd V V (Zk 23 V V V V V (op_sneq V V V ?_))))))))); intro c23 h23
     refine Za 24 V V V (Zo V V V (Za 25 V V V (Zd V V ?_)))
     rcases Zh h23 with ⟨rfl, g23⟩ | ⟨rfl, g23⟩
     ·skip
      refine Zk 26 V V V V V (Zj V tf_30_3 V V (Zk 27 V V V V V (Zp V ta_28 V V ?_)))
      refine Zk 28 V V V V V (Yx V tu_28 V (.seq _ _) (fun n28 => ?_))
      refine Zk 29 V V V V V (Zj V tf_30_3 V V (Zk 30 V V V V V (Zp V ta_28 V V ?_)))
      refine Zk 31 V V V V V (Yx V tu_28 V (.seq _ _) (fun n31 => ?_))
      refine Zk 32 V V V V V (Xw V V V ?_); intro c32 h32
      refine Za 33 V V V (Zo V V V (Vq (Ub V ?_ by5 by3)))
      simp_all; done
     ·skip
      refine Zi 26 V V V V V (Zi 27 V V V V V (Zi 28 V V V V V (Zi 29 V V V V V (Zi 30 V V V V V (Zi 31 V V V V V (Zi 32 V V V V V (Za 33 V V V (Zo V V V (Vq (Ub V ?_ by5 by3))))))))))
      simp_all; done
    ·skip
     refine Zi 19 V V V V V (Zi 20 V V V V V (Zi 21 V V V V V (Zi 22 V V V V V (Zi 23 V V V V V (Za 24 V V V (Zo V V V (Za 25 V V V (Zd V V (Zi 26 V V V V V (Zi 27 V V V V V (Zi 28 V V V V V (Zi 29 V V V V V (Zi 30 V V V V V ?_)))))))))))))
     refine Zi 31 V V V V V (Zi 32 V V V V V (Za 33 V V V (Zo V V V (Vq (Ub V ?_ by5 by3)))))
     simp_all; done
   ·skip
    refine Zi 12 V V V V V (Zi 13 V V V V V (Zi 14 V V V V V (Zi 15 V V V V V (Zi 16 V V V V V (Za 17 V V V (Zo V V V (Za 18 V V V (Zd V V (Zi 19 V V V V V (Zi 20 V V V V V (Zi 21 V V V V V (Zi 22 V V V V V (Zi 23 V V V V V ?_)))))))))))))
    refine Za 24 V V V (Zo V V V (Za 25 V V V (Zd V V (Zi 26 V V V V V (Zi 27 V V V V V (Zi 28 V V V V V (Zi 29 V V V V V (Zi 30 V V V V V (Zi 31 V V V V V (Zi 32 V V V V V (Za 33 V V V (Zo V V V (Vq (Ub V ?_ by5 by3))))))))))))))
    simp_all; done
  intro c33 h33
  refine Zb ?_
  rcases Zh h33 with ⟨rfl, g33⟩ | ⟨rfl, g33⟩
  ·refine Zn V (Zt (Zb (Zf (Zf (Zc (Za 5 V V V (Ze V V (Vq (Zb (Zw ?_))))))))))
   apply Xl [0, 1, 4, 5, 6, 7, 8, 9, 10, 11, 12, 13, 14, 15, 16, 17, 18, 19, 20, 21, 22, 23, 24, 25, 26, 27, 28, 29, 30, 31, 32, 33, 34, 35, 36, 37, 38, 39, 40, 41, 42, 43, 44, 45, 46, 47, 48, 49, 50, 51, 52] (σ := Nat) (fun zz => match zz with | i => [(5, .val (.int .i64 i))]) (fun zz => match zz with | i => i ≤ l.length) (fun zz => match zz with | i => l.length - i) (0)
   ·repeat' (first | exact Ug | apply Ue rfl | apply Uf rfl)
   ·exact Nat.zero_le _
   ·exact by4
   rintro i hI
   try dsimp only [List.cons_append, List.nil_append] at hI ⊢
   refine Zf (Zf (Zc (Za 34 V V V (Zd V V (Za 35 V V V (Zj V tf_30_3 V V (Za 36 V V V (Zp V ta_28 V V ?_))))))))
   refine Za 37 V V V (Yx V tu_28 V (.seq _ _) (fun n37 => ?_))
   refine Za 38 V V V (Yq V V V ?_); intro c38 h38
   refine Vq (Zb ?_)
   rcases Zh h38 with ⟨rfl, g38⟩ | ⟨rfl, g38⟩
   ·exact Zn V (Yy (Xa (Xs (Yz (Zb (Zf (Zc (Za 4 V V V (Ze V V (Vq (Zb (Ya (Yg V V (Vx _) by3 ⟨⟨true, by simp, V⟩, V⟩)))))))))))))
   ·refine Zr V (Zt (Zb (Zf (Zw (Zf ?_)))))
    obtain ⟨⟨pk, pn, pc, pl⟩, hxp⟩ := Yu (l := l) (i := i) (by omega)
    have hcp := Pf.cellss_get hxp
    have HP := IH _ (Ui hxp)
    simp only [Pf.cells] at hcp HP
    refine Wo Wk V (Zs 41 V V (Zj V tf_30_3 V V ⟨V, V⟩) ?_)
    refine Zs 42 V V (Zp V ta_28 V V ⟨V, V⟩) ?_
    refine Zs 43 V V (Zd V V ⟨V, V⟩) ?_
    refine Zs 44 V V (Yd V te_28 V (.seq _ _) V V (hcp) ⟨V, V⟩) ?_
    refine Zs 45 V V (Yc (cs' := [_, _, _, _]) V Wu V V V ⟨V, V⟩) ?_
    refine Zs 46 V V (Zj V tf_30_3 V V ⟨V, V⟩) ?_
    refine Zs 47 V V (Zp V ta_28 V V ⟨V, V⟩) ?_
    refine Zs 48 V V (Zd V V ⟨V, V⟩) ?_
    refine Zs 49 V V (Yd V te_28 V (.seq _ _) V V (hcp) ⟨V, V⟩) ?_
    refine Zs 50 V V (Yc (cs' := [_, _, _, _]) V Wu V V V ⟨V, V⟩) ?_
    refine Wb 51 V V (fun _ q => Yh (xs := [.tmp 45, .tmp 50]) V V (HP) by1 q) ?_; intro c51 h51
    refine Wb 52 V V (fun _ q => We V V q) ?_; intro c52 h52
    try replace h52 := nott h52 h51
    show AGo _ _ _ _ _ _ _
    refine Zb ?_
    rcases Zh h52 with ⟨rfl, g52⟩ | ⟨rfl, g52⟩
    ·refine Zn V (Zt (Yn (Zb (Zc (Za 39 V V V (Zd V V (Za 40 V V V (Yt V V V (Uh _ (by omega)) ?_))))))))
     refine Za 5 V V V (Ze V V (Vq (Yv ?_)))
     exact ⟨i + 1, (by show i + 1 ≤ l.length; omega), by show l.length - (i + 1) < l.length - i; omega, by4, by3⟩
    ·exact absurd trivial g52
  ·exact False.elim g33
theorem climbF_end (v : En) (to : ByteArray) (n : Nat) (x : Pf) : climbF v to (n + 1) to x = x := by rw [climbF, if_pos rfl]
theorem climbF_go {v : En} {to c s : ByteArray} (n : Nat) (x : Pf) (h : ¬ c = to) (hs : (supersOf v c)[(upI v to c).toNat]? = some s) : climbF v to (n + 1) c x = climbF v to n s (.mk 2 (upI v to c) c [x]) := by
 rw [climbF, if_neg h, hs]
theorem up1_c (v : En) (hv : EnC v) (to : ByteArray) (b9 : Nat) : ∀ (n : Nat) (c : ByteArray) (x : Pf), high v c < n → (c = to ∨ to ∈ aboveR v c) →
    KCall Tryz.prog 67 [.val (.string c), .agg x.cells, .cptr [.val (.string to)], .cptr v.cells, .ptr b9 0] [.loc b9 [.clo (.func 67) [] [.cptr [.val (.string to)], .cptr v.cells, .ptr b9 0]]] (.agg (climbF v to n c x).cells)
 | 0, c, x, h, _ => by omega
 | n + 1, c, x, h, hup => by
  have IH := fun s y a b => up1_c v hv to b9 n s y a b
  have HC := tClass_c v c
  have HA := fun s => (tAbove_c v hv.g.b.sup s).pure
  have HH := fun s => ContainsS_c (aboveR v s) to
  obtain ⟨r, hr⟩ : ∃ r, climbF v to (n + 1) c x = r := ⟨_, rfl⟩
  rw [hr]
  by_cases hne : c = to
  ·subst hne
   rw [climbF_end] at hr
   subst hr
   obtain ⟨xk, xn, xc, xl⟩ := x
   obtain ⟨da, cl, ins⟩ := v
   simp only [En.cells, Pf.cells]
   refine Zu Tryz.func67 V (by kernel_rfl) V (Ud V) ?_
   refine Yf (Zf (Zc (Za 6 V V V (Xb (cs' := [_, _, _, _]) V V V V (Za 7 V V V (Zy (cs' := [_, _, _, _]) V tz_30 V V ?_)))))); intro b7
   refine Vq (Zb (Zf (Zf (Zc (Za 12 V V V (Zd V V (Za 13 V V V (Zp V Xd V V (Za 14 V V V (Xt V V V ?_)))))))))); intro c14 h14
   refine Vq (Zb ?_)
   rcases Zh h14 with ⟨rfl, g14⟩ | ⟨rfl, g14⟩
   ·exact absurd V g14
   ·exact Zr V (Zf (Zc (Za 15 V V V (Yc (cs' := [_, _, _, _]) V Wu V V V (Zq V V (Zm (cs' := [_, _, _, _]) (i := 0) V ts_30 V V V V V (Ud V) V (Vq (Zb (Ya (Ym (i := 0) V V V Wu V (Vx _) (Vu _ (Vr _)) ⟨V, V⟩))))))))))
  obtain ⟨s, hu0, hc0, hsu, hed, hs⟩ := up_at (hup.resolve_left hne)
  have hlt := hv.high_lt hed
  rw [climbF_go n x hne hsu] at hr
  have IH := IH s (.mk 2 (upI v to c) c [x]) (by omega) hs
  rw [hr] at IH
  obtain ⟨cx, hcx, hcs, _⟩ := findI_get (fun (c' : Cl) => sameB c'.s c) v.cl 0 hc0
  have hci : classI v c = findI (fun (c' : Cl) => sameB c'.s c) v.cl 0 := rfl
  rw [← hci] at hcx
  have hsl : supersOf v c = cx.su := by unfold supersOf; rw [show v.cl[(classI v c).toNat]? = some cx from hcx]; rfl
  obtain ⟨ui, hui⟩ : ∃ u, upI v to c = u := ⟨_, rfl⟩
  have hud := hui
  unfold upI at hud
  rw [hui] at hu0 hsu IH
  rw [hsl] at hud hsu
  clear hci hr hui hsl hed hlt h hup
  generalize hpp : (fun s => sameB s to || hasB (aboveR v s) to) = pp at hud
  have hpq : ∀ s, pp s = true ↔ (s = to ∨ to ∈ aboveR v s) := fun s => by subst hpp; simp only [Bool.or_eq_true, Vc, hasB_iff]
  clear hpp
  generalize classI v c = ci at *
  rw [show max ci 0 = ci by omega] at HC
  obtain ⟨xk, xn, xc, xl⟩ := x
  obtain ⟨rk, rn, rc, rl⟩ := r
  generalize hav : aboveR v = av at *
  clear hav hv
  obtain ⟨da, cl, ins⟩ := v
  have hcl := Cl.cellss_len cl
  obtain ⟨ys, yv, ysu, yms, yds, yp⟩ := cx
  have hcy := Cl.cellss_get hcx
  simp only [En.cells, Pf.cells, Pf.cellss, Cl.cells, Cl.su, En.cl] at *
  have hls := Xy ysu
  have hcb : ci < cl.length := by have := get_lt hcx; omega
  refine Zu Tryz.func67 V (by kernel_rfl) V (Ud V) ?_
  refine Yf (Zf (Zc (Za 6 V V V (Xb (cs' := [_, _, _, _]) V V V V (Za 7 V V V (Zy (cs' := [_, _, _, _]) V tz_30 V V ?_)))))); intro b7
  refine Vq (Zb (Zf (Zf (Zc (Za 12 V V V (Zd V V (Za 13 V V V (Zp V Xd V V (Za 14 V V V (Xt V V V ?_)))))))))); intro c14 h14
  refine Vq (Zb ?_)
  rcases Zh h14 with ⟨rfl, g14⟩ | ⟨rfl, g14⟩
  ·refine Zn V (Zt (Zb (Zf (Zc (Za 17 V V V (Yc (cs' := [_, _, _]) V Wf V V V (Za 18 V V V (Zd V V (Za 19 V V V (Yk (xs := [.tmp 17, .tmp 18]) V V (HC) by1 ?_))))))))))
   refine Za 16 V V V (Zd V V (Za 20 V V V (Xc V V V (Za 21 V V V (Xc V V V (Za 8 V V V (Ze V V (Za 9 V V V (Ze V V (Vq (Zb (Zf (Zf (Zc (Za 22 V V V (Zj V Wi V V (Za 23 V V V (Zp V Vj V V (Za 24 V V V (Zd V V ?_))))))))))))))))))))
   refine Za 25 V V V (Yd (i := ci.toNat) V te_35 V (.seq _ _) V (by first | rfl | omega) (hcy) ?_)
   refine Za 26 V V V (Zj V tf_77_2 V V (Za 27 V V V (Zp V ta_68 V V ?_)))
   refine Za 28 V V V (Yx V tu_68 V (.seq _ _) (fun n28 => ?_))
   refine Za 29 V V V (Zd V V (Vq (Zb (Zw ?_))))
   refine c_lens (t := 27) V (.seq _ _) (fun hmax => ?_)
   apply Xl [1, 5, 8, 9, 10, 11, 12, 13, 14, 15, 16, 17, 18, 19, 20, 21, 22, 23, 24, 25, 26, 29, 30, 31, 32, 33, 34, 35, 36, 37, 38, 39, 40, 41, 42, 43, 44, 45, 46, 47, 48, 49, 50, 51, 52] (σ := Nat) (fun zz => match zz with | i => [(29, .val (.int .i64 i))]) (fun zz => match zz with | i => i ≤ ysu.length ∧ findI pp (ysu.drop i) i = ui) (fun zz => match zz with | i => ysu.length - i) (0)
   ·repeat' (first | exact Ug | apply Ue rfl | apply Uf rfl)
   ·exact ⟨Nat.zero_le _, hud⟩
   ·exact by4
   rintro i hI
   try dsimp only [List.cons_append, List.nil_append] at hI ⊢
   obtain ⟨hi, hf⟩ := hI
   refine Zf (Zc (Za 30 V V V (Yq V V V ?_))); intro c30 h30
   refine Vq (Zb (Zf ?_))
   rcases Zh h30 with ⟨rfl, g30⟩ | ⟨rfl, g30⟩
   ·refine Zn V (Yy (Xa (Xs (Yz (Zb (Zf ?_))))))
    rw [Uj (by omega), findI] at hf
    exact absurd hu0 (by omega)
   ·refine Zr V (Zt (Zb (Zf (Zw (Zf ?_)))))
    obtain ⟨z, hxz⟩ := Yu (l := ysu) (i := i) by7
    have hcz := strs_get hxz
    have hmz := Ui hxz
    rw [Xn hxz, findI] at hf
    have HAz := HA z
    have HHz := HH z
    refine Zc (Za 31 V V V (Zd V V (Za 32 V V V (Yd V te_68 V (.seq _ _) V V (hcz) (Za 33 V V V (Zp V Xd V V (Za 10 V V V (Ze V V (Za 11 V V V (Ze V V (Vq (Zb (Zf (c_boold 43 (z = to ∨ to ∈ av z) Wk V ?_ _ _ V ?_))))))))))))))
    ·skip
     refine Zs 34 V V (Zd V V ⟨V, V⟩) ?_
     refine Zs 35 V V (Zp V Xd V V ⟨V, V⟩) ?_
     refine Wb 36 V V (fun _ q => Xt V V V q) ?_; intro c36 h36
     refine Zs 37 V V (Zd V V ⟨V, V⟩) ?_
     rcases Zh h36 with ⟨rfl, g36⟩ | ⟨rfl, g36⟩
     ·skip
      refine Ye 38 V V V V (Yc (cs' := [_, _, _]) V Wf V V V ⟨V, V⟩) ?_
      refine Ye 39 V V V V (Zd V V ⟨V, V⟩) ?_
      refine Ye 40 V V V V (Yk (xs := [.tmp 38, .tmp 39]) V V (HAz) by1 ⟨V, V⟩) ?_
      refine Ye 41 V V V V (Zp V Xd V V ⟨V, V⟩) ?_
      refine Wp 42 V V V V (fun _ q => Yh (xs := [.tmp 40, .tmp 41]) V V (HHz) by1 q) ?_; intro c42 h42
      refine Zs 43 V V (Zo V V V ⟨V, V⟩) ?_
      show BoolQ _ _ _ _ _ _
      refine Ub V ?_ by5 by3
      clear HC HA HH HAz HHz IH; first | (simp_all; done) | grind
     ·skip
      refine Zv 38 V V V V (Zv 39 V V V V (Zv 40 V V V V (Zv 41 V V V V (Zv 42 V V V V (Zs 43 V V (Zo V V V ⟨V, V⟩) ?_)))))
      show BoolQ _ _ _ _ _ _
      refine Ub V ?_ by5 by3
      clear HC HA HH HAz HHz IH; first | (simp_all; done) | grind
    intro c43 h43
    refine Zb ?_
    rcases Zh h43 with ⟨rfl, g43⟩ | ⟨rfl, g43⟩
    ·refine Zn V (Zt (Yn (Zb (Zc (Za 52 V V V (Yt V V V (Uh _ (by omega)) ?_))))))
     refine Za 29 V V V (Zd V V (Vq (Yv ?_)))
     rw [if_neg (fun q => g43 ((hpq z).1 q))] at hf; exact ⟨i + 1, ⟨by show i + 1 ≤ ysu.length; omega, hf⟩, by show ysu.length - (i + 1) < ysu.length - i; omega, by4, by3⟩
    ·refine Zr V (Zf ?_)
     rw [if_pos ((hpq z).2 g43)] at hf
     subst hf
     rw [show ((i : Int)).toNat = i by omega, hxz] at hsu
     cases hsu
     refine Zc (Za 44 V V V (Zl (i := 1) V ta_124 V V V (Za 45 V V V (Zd V V (Za 46 V V V (Zd V V (Za 47 V V V (Zd V V (Za 48 V V V (Yc (cs' := [_, _, _, _]) V Wu V V V (Za 49 V V V (Yb (xs := [.tmp 48]) el_28 V V V V V V (Ud V) (Za 50 V V V (Yj (ns := [0, 1, 2, 3]) (xs := [.const (.int .i64 2), .tmp 46, .tmp 47, .tmp 49]) V tz_30 V tfl_30 V V V V (Za 51 V V V (op_callvat [1] (xs := [.tmp 45, .tmp 50])  V V V V IH by1 ?_))))))))))))))))
     rintro v51 M51 ⟨rfl, rfl⟩
     exact Zq V V (Zm (cs' := [_, _, _, _]) (i := 1) V ts_30 V V V V V (Ud V) V (Vq (Zb (Ya (Ym (i := 1) V V V Wu V (Vx _) by3 ⟨V, V⟩)))))
  ·exact absurd g14 hne
theorem up_c (v : En) (hv : EnC v) (c to : ByteArray) (x : Pf) (h : c = to ∨ to ∈ aboveR v c) : PCall Tryz.prog 33 [.agg v.cells, .val (.string c), .val (.string to), .agg x.cells] (.agg (upF v c to x).cells) := by
 have H := fun b9 => up1_c v hv to b9 (high v c + 1) c x (by omega) h
 have he : climbF v to (high v c + 1) c x = upF v c to x := rfl
 rw [he] at H
 generalize upF v c to x = r at *
 obtain ⟨xk, xn, xc, xl⟩ := x
 obtain ⟨rk, rn, rc, rl⟩ := r
 clear he hv h
 obtain ⟨da, cl, ins⟩ := v
 simp only [En.cells, Pf.cells] at H ⊢
 refine Zu Tryz.func33 V (by kernel_rfl) V (Ud V) ?_
 refine Yf (Zf (Zc (Za 4 V V V (Xb (cs' := [_, _, _]) V V V V (Za 6 V V V (Xb (cs' := [_]) V V V V (Za 7 V V V (Xb (cs' := [_, _, _, _]) V V V V (Za 8 V V V (Zy (cs' := [_, _, _, _]) V tz_30 V V ?_)))))))))); intro b8
 refine Vq (Zb (Zf (Zc (Za 9 V V V (Zy (cs' := [_]) V tz_124 V V ?_))))); intro b9
 refine Vq (Zb (Zf (Zc (Za 10 V V V (op_makeFunc (fs := []) (cs := [.tmp 6, .tmp 4, .tmp 9]) V V V (Zq V V (Zm (cs' := [_]) (i := 0) V ts_124 V V V V V (Ud V) V (Vq (Zb (Zf (Zc (Za 11 V V V (Zl (i := 0) V ta_124 V V V (Za 12 V V V (Zd V V (Za 13 V V V (Yc (cs' := [_, _, _, _]) V Wu V V V (Za 14 V V V (op_callvat [0] (xs := [.tmp 12, .tmp 13])  V V V V (H b9) by1 ?_)))))))))))))))))))
 rintro v14 M14 ⟨rfl, rfl⟩
 exact Zq V V (Zm (cs' := [_, _, _, _]) (i := 1) V ts_30 V V V V V (Ud V) V (Vq (Zb (Ya (Ym (i := 1) V V V Wu V (Vx _) (Vs _) ⟨V, V⟩)))))
theorem supP_hit {v : En} {gs : List Pr} {p g : Pr} {i : Nat} (hi : supI v gs p = i) (hg : gs[i]? = some g) : supP v gs p = (upF v g.c p.c (.mk 1 i kE []), true) := by
 unfold supP
 rw [hi, show ((i : Int)).toNat = i by omega, hg]
 simp only []
 rw [if_neg (by omega)]
theorem supP_no {v : En} {gs : List Pr} {p : Pr} (hi : supI v gs p < 0) : supP v gs p = (pf0, false) := by
 unfold supP
 cases gs[(supI v gs p).toNat]? with
 | none => rfl
 | some g => simp only []; rw [if_pos hi]
theorem needsR_len {v : En} (hv : EnB v) (i : Int) (t : Ty) : (needsR v i t).length ≤ 100000 := by
 unfold needsR
 cases hx : v.ins[i.toNat]? with
 | none => simp
 | some x =>
  simp only []
  have := (hv.inss x (Ui hx)).1
  split
  ·simp
  ·rw [List.length_map]; omega
theorem Prove1_c (x p : Pr) : BCall Tryz.prog 27 [.agg x.cells, .cptr p.cells] (prB x p = true) := by
 have H := same_c x p
 obtain ⟨xc, ⟨xk, xs, xn, xl⟩⟩ := x
 obtain ⟨pc, ⟨pk, ps, pn, pl⟩⟩ := p
 rw [show (prB (Pr.mk xc ⟨xk, xs, xn, xl⟩) (Pr.mk pc ⟨pk, ps, pn, pl⟩) = true) = ((Pr.mk xc ⟨xk, xs, xn, xl⟩) = (Pr.mk pc ⟨pk, ps, pn, pl⟩)) from propext prB_iff]
 simp only [Pr.cells, Ty.cells] at H ⊢
 refine Zu Tryz.func27 V (by kernel_rfl) V (Ud V) ?_
 refine Yf (Zf (Zc (Za 2 V V V (Xb (cs' := [_, _, _, _, _]) V V V V (Za 3 V V V (Ze V V (Vq (Zb (Zf (Zc (Za 4 V V V (Yc (cs' := [_, _, _, _, _]) V ta_27 V V V (Za 5 V V V (Yc (cs' := [_, _, _, _, _]) V ta_27 V V V (Za 6 V V V (Yh (xs := [.tmp 4, .tmp 5]) V V (H) by1 ?_)))))))))))))))); intro c6 h6
 exact Za 3 V V V (Ze V V (Vq (Zb (Ya (Yg V V (Vx _) by3 ⟨⟨_, h6, V⟩, V⟩)))))
theorem Prove_c (v : En) (hv : EnC v) (gs : List Pr) : ∀ (n : Nat) (p : Pr), p.t.size < n → p.t.size ≤ 1000000 → PCall Tryz.prog 11 [.agg v.cells, .seq 5 (Pr.cellss gs), .agg p.cells] (.tup [.agg (proveF v gs n p).1.cells, .val (.bool (proveF v gs n p).2)])
 | 0, p, h, _ => by omega
 | n + 1, p, h, hz => by
  have IH := fun q a b => Prove_c v hv gs n q a b
  have HG : PCall Tryz.prog _ _ _ := IxF_Pr (fun g => prB g p) 27 [] [.cptr p.cells] gs (fun x _ => Prove1_c x p)
  have HF := fits_c v p
  have HN := Needs_c v hv.g (instI v p.c p.t.name) p.t hz
  have HS := fun (g : Pr) => tSameType_c g.t p.t
  have HA := fun (g : Pr) => (tAbove_c v hv.g.b.sup g.c).pure
  have HH := fun (g : Pr) => ContainsS_c (aboveR v g.c) p.c
  have HU0 := fun (g : Pr) (i : Nat) h => up_c v hv g.c p.c (.mk 1 i kE []) (.inr h)
  obtain ⟨r, hr⟩ : ∃ r, proveF v gs (n + 1) p = r := ⟨_, rfl⟩
  rw [hr]
  rw [proveF] at hr
  have hgi : givI gs p = findI (fun g => prB g p) gs 0 := rfl
  rw [← hgi] at HG
  generalize givI gs p = gi at *
  clear hgi
  have hfi : fitsR v p = true → 0 ≤ instI v p.c p.t.name := fun q => by unfold fitsR at q; exact (of_decide_eq_true q).1
  have hnz := fun q (hq : q ∈ needsR v (instI v p.c p.t.name) p.t) => hv.needs_size hq
  have IH : ∀ q ∈ needsR v (instI v p.c p.t.name) p.t, PCall Tryz.prog _ _ _ := fun q hq => IH q (by have := hnz q hq; omega) (by have := hnz q hq; omega)
  clear hnz
  have hlb := needsR_len hv.g.b (instI v p.c p.t.name) p.t
  generalize proveF v gs n = F at *
  generalize needsR v (instI v p.c p.t.name) p.t = l at *
  generalize fitsR v p = c30 at *
  generalize instI v p.c p.t.name = ii at *
  obtain ⟨si, hsi⟩ : ∃ s, supI v gs p = s := ⟨_, rfl⟩
  have hsh0 := fun (i : Nat) g (e : si = i) => supP_hit (v := v) (gs := gs) (p := p) (g := g) (i := i) (hsi.trans e)
  have hsn : si < 0 → _ := fun e => supP_no (v := v) (gs := gs) (p := p) (by omega)
  unfold supI at hsi
  generalize hpp : (fun (g : Pr) => g.t.eqb p.t && hasB (aboveR v g.c) p.c) = pp at hsi
  have hpq : ∀ g, pp g = true ↔ (g.t = p.t ∧ p.c ∈ aboveR v g.c) := fun s => by subst hpp; simp only [Bool.and_eq_true, Ty.eqb_iff, hasB_iff]
  clear hpp
  generalize supP v gs p = sp at *
  have hUF : ∃ U : Pr → Nat → Pf, U = fun (g : Pr) (i : Nat) => upF v g.c p.c (.mk 1 i kE []) := ⟨_, rfl⟩
  obtain ⟨U, hU⟩ := hUF
  have HU : ∀ (g : Pr) (i : Nat), p.c ∈ aboveR v g.c → PCall Tryz.prog 33 [.agg v.cells, .val (.string g.c), .val (.string p.c), .agg (Pf.mk 1 i kE []).cells] (.agg (U g i).cells) := fun g i h => by rw [hU]; exact HU0 g i h
  have hsh : ∀ (i : Nat) g, si = i → gs[i]? = some g → sp = (U g i, true) := fun i g e k => by rw [hU]; exact hsh0 i g e k
  clear hU hv hz h hsh0 HU0
  generalize aboveR v = av at *
  obtain ⟨pc, ⟨pk, ps, pn, pl⟩⟩ := p
  obtain ⟨da, cl, ins⟩ := v
  obtain ⟨⟨rk, rn, rc, rl⟩, rb⟩ := r
  have hgl := Pr.cellss_len gs
  have hll := Pr.cellss_len l
  simp only [En.cells, Pf.cells, Pf.cellss, Pr.cells, Ty.cells, Pr.c, Pr.t] at *
  refine Zu Tryz.func11 V (by kernel_rfl) V (Ud V) ?_
  refine Yf (Zf (Zc (Za 3 V V V (Xb (cs' := [_, _, _]) V V V V (Za 5 V V V (Xb (cs' := [_, _, _, _, _]) V V V V (Za 6 V V V (Zy (cs' := [_, _, _, _]) V tz_30 V V ?_)))))))); intro b6
  refine Za 7 V V V (Ze V V (Vq (Zb (Zf (Zf (Zc (Za 18 V V V (Zd V V (Za 19 V V V (op_makeFunc (fs := []) (cs := [.tmp 5]) V V V (Za 20 V V V (Yk (xs := [.tmp 18, .tmp 19]) V V (HG) by1 ?_))))))))))))
  refine Za 8 V V V (Ze V V (Vq (Zb (Zf (Zc (Za 21 V V V (Zd V V (Za 22 V V V (Wm V V V ?_))))))))); intro c22 h22
  refine Vq (Zb ?_)
  rcases Zh h22 with ⟨rfl, g22⟩ | ⟨rfl, g22⟩
  ·refine Zn V (Zt (Zb (Zf (Zf ?_))))
   rw [if_neg g22] at hr
   refine Zc (Za 26 V V V (Yc (cs' := [_, _, _]) V Wf V V V (Za 27 V V V (Yc (cs' := [_, _, _, _, _]) V ta_27 V V V (Za 28 V V V (Yk (xs := [.tmp 26, .tmp 27]) V V (HF) by1 ?_))))))
   refine Za 25 V V V (Zd V V (Za 29 V V V (Xc V V V (Za 30 V V V (Xc V V V (Za 9 V V V (Ze V V (Za 10 V V V (Ze V V (Vq (Zb (Zf (Zc (Za 31 V V V (Zd V V (Vq (Zb ?_)))))))))))))))))
   rcases c30 with _ | _
   ·refine Zn V (Zt (Zb (Zf (Zf (Zc (Za 64 V V V (Zd V V ?_)))))))
    refine Za 65 V V V (Yx V tu_22 V (.seq _ _) (fun n65 => ?_))
    refine Za 66 V V V (Zd V V (Vq (Zb (Zw ?_))))
    have hr : sp = (Pf.mk rk rn rc rl, rb) := by
     first
      | (rw [List.take_of_length_le (by omega)] at hb; rw [if_neg (fun q => by rw [← hb] at q; exact absurd q.2 (by simp))] at hr; exact hr)
      | (rw [if_neg (fun q => absurd q.1 (by simp))] at hr; exact hr)
    apply Xl [0, 1, 2, 4, 7, 8, 9, 10, 11, 12, 13, 14, 15, 16, 17, 18, 19, 20, 21, 22, 23, 24, 25, 26, 27, 28, 29, 31, 32, 33, 34, 35, 36, 37, 38, 39, 40, 41, 42, 43, 44, 45, 46, 47, 48, 49, 50, 51, 52, 53, 54, 55, 56, 57, 58, 59, 60, 61, 62, 63, 66, 67, 68, 69, 70, 71, 72, 73, 74, 75, 76, 77, 78, 79, 80, 81, 82, 83, 84, 85, 86, 87, 88, 89, 90, 91, 92, 93] (σ := Nat) (fun zz => match zz with | i => [(66, .val (.int .i64 i))]) (fun zz => match zz with | i => i ≤ gs.length ∧ findI pp (gs.drop i) i = si) (fun zz => match zz with | i => gs.length - i) (0)
    ·repeat' (first | exact Ug | apply Ue rfl | apply Uf rfl)
    ·exact ⟨Nat.zero_le _, hsi⟩
    ·exact by4
    rintro i hI
    try dsimp only [List.cons_append, List.nil_append] at hI ⊢
    obtain ⟨hi, hf⟩ := hI
    refine Zf (Zc (Za 67 V V V (Yq V V V ?_))); intro c67 h67
    refine Vq (Zb (Zf ?_))
    rcases Zh h67 with ⟨rfl, g67⟩ | ⟨rfl, g67⟩
    ·refine Zn V (Yy (Xa (Xs (Yz (Zb (Zf (Zc (Za 94 V V V (Yj (ns := []) (xs := []) V tz_30 V tfl_30 V V V V (Zq V V (Zm (cs' := [_, _, _, _]) (i := 0) V ts_30 V V V V V (Ud V) V (Za 7 V V V (Ze V V (Vq (Zb (Ya ?_))))))))))))))))
     rw [Uj (by omega), findI] at hf
     rw [hsn (by omega)] at hr
     cases hr
     first
      | exact Va (i := 0) rfl rfl rfl rfl Wu rfl by0 (Vs _) ⟨rfl, rfl⟩
      | exact Va (i := 1) rfl rfl rfl rfl Wu rfl by0 (Vs _) ⟨rfl, rfl⟩
      | exact Va (i := 2) rfl rfl rfl rfl Wu rfl by0 (Vs _) ⟨rfl, rfl⟩
      | exact Va (i := 3) rfl rfl rfl rfl Wu rfl by0 (Vs _) ⟨rfl, rfl⟩
    ·refine Zr V (Zt (Zb (Zf (Zw (Zf ?_)))))
     obtain ⟨⟨gc, ⟨gtk, gts, gtn, gtl⟩⟩, hxg⟩ := Yu (l := gs) (i := i) by7
     have hcg := Pr.cellss_get hxg
     have hmg := Ui hxg
     rw [Xn hxg, findI] at hf
     have HSg := HS (Pr.mk gc ⟨gtk, gts, gtn, gtl⟩)
     have HAg := HA (Pr.mk gc ⟨gtk, gts, gtn, gtl⟩)
     have HHg := HH (Pr.mk gc ⟨gtk, gts, gtn, gtl⟩)
     simp only [Ty.cells] at HSg HAg HHg
     refine Zc (Za 68 V V V (Zd V V (Za 69 V V V (Yd V te_22 V (.seq _ _) V V (hcg) (Za 70 V V V (Yc (cs' := [_, _, _, _, _]) V ta_27 V V V (Za 17 V V V (Zy (cs' := [_, _, _, _, _]) V tz_27 V V ?_)))))))); intro b17
     refine Za 16 V V V (Ze V V (Zq V V (Zm (cs' := [_, _, _, _, _]) (i := 0) V ts_27 V V V V V (Ud V) V (Vq (Zb (Zf (c_boold 84 (Ty.mk gtk gts gtn gtl = Ty.mk pk ps pn pl ∧ pc ∈ av gc) Wk V ?_ _ _ V ?_)))))))
     ·skip
      refine Zs 71 V V (Zg V Wl V ⟨V, V⟩) ?_
      refine Zs 72 V V (Zx (cs' := [_, _, _, _]) (i := 0) V Xq V V V V ⟨V, V⟩) ?_
      refine Zs 73 V V (Zj V Wl V V ⟨V, V⟩) ?_
      refine Zs 74 V V (Yc (cs' := [_, _, _, _]) V Xq V V V ⟨V, V⟩) ?_
      refine Wb 75 V V (fun _ q => Yh (xs := [.tmp 72, .tmp 74]) V V (HSg) by1 q) ?_; intro c75 h75
      refine Zs 76 V V (Zd V V ⟨V, V⟩) ?_
      rcases Zh h75 with ⟨rfl, g75⟩ | ⟨rfl, g75⟩
      ·skip
       refine Zv 77 V V V V (Zv 78 V V V V (Zv 79 V V V V (Zv 80 V V V V (Zv 81 V V V V (Zv 82 V V V V (Zv 83 V V V V (Zs 84 V V (Zo V V V ⟨V, V⟩) ?_)))))))
       show BoolQ _ _ _ _ _ _
       refine Ub V ?_ by5 by3
       clear HSg HAg HHg HS HA HH HU HG HF HN IH; first | (simp_all; done) | grind
      ·skip
       refine Ye 77 V V V V (Yc (cs' := [_, _, _]) V Wf V V V ⟨V, V⟩) ?_
       refine Ye 78 V V V V (Zg V Wy V ⟨V, V⟩) ?_
       refine Ye 79 V V V V (Zl (i := 0) V Xd V V V ⟨V, V⟩) ?_
       refine Ye 80 V V V V (Yk (xs := [.tmp 77, .tmp 79]) V V (HAg) by1 ⟨V, V⟩) ?_
       refine Ye 81 V V V V (Zj V Wy V V ⟨V, V⟩) ?_
       refine Ye 82 V V V V (Zp V Xd V V ⟨V, V⟩) ?_
       refine Wp 83 V V V V (fun _ q => Yh (xs := [.tmp 80, .tmp 82]) V V (HHg) by1 q) ?_; intro c83 h83
       refine Zs 84 V V (Zo V V V ⟨V, V⟩) ?_
       show BoolQ _ _ _ _ _ _
       refine Ub V ?_ by5 by3
       clear HSg HAg HHg HS HA HH HU HG HF HN IH; first | (simp_all; done) | grind
     intro c84 h84
     refine Zb ?_
     rcases Zh h84 with ⟨rfl, g84⟩ | ⟨rfl, g84⟩
     ·refine Zn V (Zt (Yn (Zb (Zc (Za 93 V V V (Yt V V V (Uh _ (by omega)) ?_))))))
      refine Za 66 V V V (Zd V V (Vq (Yv ?_)))
      rw [if_neg (fun q => g84 ((hpq _).1 q))] at hf; exact ⟨i + 1, ⟨by show i + 1 ≤ gs.length; omega, hf⟩, by show gs.length - (i + 1) < gs.length - i; omega, by4, by3⟩
     ·refine Zr V (Zf ?_)
      rw [if_pos ((hpq _).2 g84)] at hf
      have hsp := hsh i _ hf.symm hxg
      rw [hsp] at hr
      have HUg := HU (Pr.mk gc ⟨gtk, gts, gtn, gtl⟩) i g84.2
      obtain ⟨h1r, h2r⟩ := Prod.mk.inj hr
      rw [h1r] at HUg
      simp only [Pf.cells] at HUg
      refine Zc (Za 85 V V V (Yc (cs' := [_, _, _]) V Wf V V V (Za 86 V V V (Zg V Wy V (Za 87 V V V (Zl (i := 0) V Xd V V V (Za 88 V V V (Zj V Wy V V (Za 89 V V V (Zp V Xd V V (Za 90 V V V (Zd V V (Za 91 V V V (Yj (ns := [0, 1]) (xs := [.const (.int .i64 1), .tmp 90]) V tz_30 V tfl_30 V V V V (Za 92 V V V (Yk (xs := [.tmp 85, .tmp 87, .tmp 89, .tmp 91]) V V (HUg) by1 ?_))))))))))))))))
      refine Zq V V (Zm (cs' := [_, _, _, _]) (i := 1) V ts_30 V V V V V (Ud V) V (Za 7 V V V (Ze V V (Vq (Zb (Ya ?_))))))
      subst h2r
      first
       | exact Va (i := 0) rfl rfl rfl rfl Wu rfl by0 (Vs _) ⟨rfl, rfl⟩
       | exact Va (i := 1) rfl rfl rfl rfl Wu rfl by0 (Vs _) ⟨rfl, rfl⟩
       | exact Va (i := 2) rfl rfl rfl rfl Wu rfl by0 (Vs _) ⟨rfl, rfl⟩
       | exact Va (i := 3) rfl rfl rfl rfl Wu rfl by0 (Vs _) ⟨rfl, rfl⟩
   ·refine Zr V (Zf ?_)
    rw [show max ii 0 = ii by have := hfi rfl; omega]
    refine Zc (Za 32 V V V (Zd V V (Za 33 V V V (Yj (ns := [0, 1]) (xs := [.const (.int .i64 3), .tmp 32]) V tz_30 V tfl_30 V V V V (Za 11 V V V (Zy (cs' := [_, _, _, _]) V tz_30 V V ?_)))))); intro b11
    refine Zq V V (Zm (cs' := [_, _, _, _]) (i := 0) V ts_30 V V V V V (Ud V) V (Vq (Zb (Zf (Zf (Zc (Za 34 V V V (Yc (cs' := [_, _, _]) V Wf V V V (Za 35 V V V (Zd V V (Za 36 V V V (Zj V Wl V V (Za 37 V V V (Yc (cs' := [_, _, _, _]) V Xq V V V (Za 38 V V V (Yk (xs := [.tmp 34, .tmp 35, .tmp 37]) V V (HN) by1 ?_))))))))))))))))
    refine Za 39 V V V (Yx V tu_22 V (.seq _ _) (fun n39 => ?_))
    refine Za 40 V V V (Zd V V (Vq (Zb (Zw ?_))))
    refine c_lens (t := 38) V (.seq _ _) (fun hmax => ?_)
    refine Xx 30 4 ?_
    apply Xp [0, 2, 4, 8, 9, 10, 12, 13, 14, 15, 18, 19, 20, 21, 22, 23, 24, 25, 26, 27, 28, 29, 31, 32, 33, 34, 35, 36, 37, 40, 41, 42, 43, 44, 45, 46, 47, 48, 49, 50, 51, 52, 53, 54, 55, 56, 57, 58, 59, 60, 61] (σ := Nat × Bool × List Pf × Value) (fun zz => match zz with | (k, c10, acc, u) => [(40, .val (.int .i64 k)), (10, .val (.bool c10))]) (fun zz => match zz with | (k, c10, acc, u) => [.loc b11 [.val (.int .i64 3), .val (.int .i64 ii), .val (.string kE), .own u 4 (Pf.cellss acc)], .loc b6 [.val (.int .i64 0), .val (.int .i64 0), .val (.string kE), .val (.slice none 0 0)], .own 30 4 u]) (fun zz => match zz with | (k, c10, acc, u) => k ≤ l.length ∧ acc = (l.take k).map (fun q => (F q).1) ∧ c10 = (l.take k).all (fun q => (F q).2)) (fun zz => match zz with | (k, c10, acc, u) => l.length - k) ((0, true, [], .slice none 0 0))
    ·repeat' (first | exact Ug | apply Ue rfl | apply Uf rfl)
    ·exact ⟨Nat.zero_le _, V, V⟩
    ·exact by4
    ·exact (Vv _ (Vz (Vx _) (Vz (Vx _) (Vz (Vx _) (Vz (Le.nilOwn 4) (Vy _))))) (Vw V))
    rintro ⟨k, c10, acc, u⟩ hI
    try dsimp only [List.cons_append, List.nil_append] at hI ⊢
    obtain ⟨h1, ha, hb⟩ := hI
    have hle : (Pf.cellss acc).length ≤ 10000000000 := by rw [Pf.cellss_len, ha, List.length_map, List.length_take]; omega
    refine Zf (Zc (Za 41 V V V (Yq V V V ?_))); intro c41 h41
    refine Vq (Zb (Zf ?_))
    rcases Zh h41 with ⟨rfl, g41⟩ | ⟨rfl, g41⟩
    ·refine Zn V (Yy (Xa (Xs (Yz (Zb (Zf (Zc (Za 62 V V V (Zd V V (Vq (Zb ?_)))))))))))
     rcases c10 with _ | _
     ·refine Zn V (Zt (Zb (Zf (Zf (Zc (Za 64 V V V (Zd V V ?_)))))))
      refine Za 65 V V V (Yx V tu_22 V (.seq _ _) (fun n65 => ?_))
      refine Za 66 V V V (Zd V V (Vq (Zb (Zw ?_))))
      have hr : sp = (Pf.mk rk rn rc rl, rb) := by
       first
        | (rw [List.take_of_length_le (by omega)] at hb; rw [if_neg (fun q => by rw [← hb] at q; exact absurd q.2 (by simp))] at hr; exact hr)
        | (rw [if_neg (fun q => absurd q.1 (by simp))] at hr; exact hr)
      apply Xl [0, 1, 2, 4, 7, 8, 9, 10, 11, 12, 13, 14, 15, 16, 17, 18, 19, 20, 21, 22, 23, 24, 25, 26, 27, 28, 29, 31, 32, 33, 34, 35, 36, 37, 38, 39, 40, 41, 42, 43, 44, 45, 46, 47, 48, 49, 50, 51, 52, 53, 54, 55, 56, 57, 58, 59, 60, 61, 62, 63, 66, 67, 68, 69, 70, 71, 72, 73, 74, 75, 76, 77, 78, 79, 80, 81, 82, 83, 84, 85, 86, 87, 88, 89, 90, 91, 92, 93] (σ := Nat) (fun zz => match zz with | i => [(66, .val (.int .i64 i))]) (fun zz => match zz with | i => i ≤ gs.length ∧ findI pp (gs.drop i) i = si) (fun zz => match zz with | i => gs.length - i) (0)
      ·repeat' (first | exact Ug | apply Ue rfl | apply Uf rfl)
      ·exact ⟨Nat.zero_le _, hsi⟩
      ·exact by4
      rintro i hI
      try dsimp only [List.cons_append, List.nil_append] at hI ⊢
      obtain ⟨hi, hf⟩ := hI
      refine Zf (Zc (Za 67 V V V (Yq V V V ?_))); intro c67 h67
      refine Vq (Zb (Zf ?_))
      rcases Zh h67 with ⟨rfl, g67⟩ | ⟨rfl, g67⟩
      ·refine Zn V (Yy (Xa (Xs (Yz (Zb (Zf (Zc (Za 94 V V V (Yj (ns := []) (xs := []) V tz_30 V tfl_30 V V V V (Zq V V (Zm (cs' := [_, _, _, _]) (i := 1) V ts_30 V V V V V (Ud V) V (Za 7 V V V (Ze V V (Vq (Zb (Ya ?_))))))))))))))))
       rw [Uj (by omega), findI] at hf
       rw [hsn (by omega)] at hr
       cases hr
       first
        | exact Va (i := 0) rfl rfl rfl rfl Wu rfl by0 (Vs _) ⟨rfl, rfl⟩
        | exact Va (i := 1) rfl rfl rfl rfl Wu rfl by0 (Vs _) ⟨rfl, rfl⟩
        | exact Va (i := 2) rfl rfl rfl rfl Wu rfl by0 (Vs _) ⟨rfl, rfl⟩
        | exact Va (i := 3) rfl rfl rfl rfl Wu rfl by0 (Vs _) ⟨rfl, rfl⟩
      ·refine Zr V (Zt (Zb (Zf (Zw (Zf ?_)))))
       obtain ⟨⟨gc, ⟨gtk, gts, gtn, gtl⟩⟩, hxg⟩ := Yu (l := gs) (i := i) by7
       have hcg := Pr.cellss_get hxg
       have hmg := Ui hxg
       rw [Xn hxg, findI] at hf
       have HSg := HS (Pr.mk gc ⟨gtk, gts, gtn, gtl⟩)
       have HAg := HA (Pr.mk gc ⟨gtk, gts, gtn, gtl⟩)
       have HHg := HH (Pr.mk gc ⟨gtk, gts, gtn, gtl⟩)
       simp only [Ty.cells] at HSg HAg HHg
       refine Zc (Za 68 V V V (Zd V V (Za 69 V V V (Yd V te_22 V (.seq _ _) V V (hcg) (Za 70 V V V (Yc (cs' := [_, _, _, _, _]) V ta_27 V V V (Za 17 V V V (Zy (cs' := [_, _, _, _, _]) V tz_27 V V ?_)))))))); intro b17
       refine Za 16 V V V (Ze V V (Zq V V (Zm (cs' := [_, _, _, _, _]) (i := 0) V ts_27 V V V V V (Ud V) V (Vq (Zb (Zf (c_boold 84 (Ty.mk gtk gts gtn gtl = Ty.mk pk ps pn pl ∧ pc ∈ av gc) Wk V ?_ _ _ V ?_)))))))
       ·skip
        refine Zs 71 V V (Zg V Wl V ⟨V, V⟩) ?_
        refine Zs 72 V V (Zx (cs' := [_, _, _, _]) (i := 0) V Xq V V V V ⟨V, V⟩) ?_
        refine Zs 73 V V (Zj V Wl V V ⟨V, V⟩) ?_
        refine Zs 74 V V (Yc (cs' := [_, _, _, _]) V Xq V V V ⟨V, V⟩) ?_
        refine Wb 75 V V (fun _ q => Yh (xs := [.tmp 72, .tmp 74]) V V (HSg) by1 q) ?_; intro c75 h75
        refine Zs 76 V V (Zd V V ⟨V, V⟩) ?_
        rcases Zh h75 with ⟨rfl, g75⟩ | ⟨rfl, g75⟩
        ·skip
         refine Zv 77 V V V V (Zv 78 V V V V (Zv 79 V V V V (Zv 80 V V V V (Zv 81 V V V V (Zv 82 V V V V (Zv 83 V V V V (Zs 84 V V (Zo V V V ⟨V, V⟩) ?_)))))))
         show BoolQ _ _ _ _ _ _
         refine Ub V ?_ by5 by3
         clear HSg HAg HHg HS HA HH HU HG HF HN IH; first | (simp_all; done) | grind
        ·skip
         refine Ye 77 V V V V (Yc (cs' := [_, _, _]) V Wf V V V ⟨V, V⟩) ?_
         refine Ye 78 V V V V (Zg V Wy V ⟨V, V⟩) ?_
         refine Ye 79 V V V V (Zl (i := 0) V Xd V V V ⟨V, V⟩) ?_
         refine Ye 80 V V V V (Yk (xs := [.tmp 77, .tmp 79]) V V (HAg) by1 ⟨V, V⟩) ?_
         refine Ye 81 V V V V (Zj V Wy V V ⟨V, V⟩) ?_
         refine Ye 82 V V V V (Zp V Xd V V ⟨V, V⟩) ?_
         refine Wp 83 V V V V (fun _ q => Yh (xs := [.tmp 80, .tmp 82]) V V (HHg) by1 q) ?_; intro c83 h83
         refine Zs 84 V V (Zo V V V ⟨V, V⟩) ?_
         show BoolQ _ _ _ _ _ _
         refine Ub V ?_ by5 by3
         clear HSg HAg HHg HS HA HH HU HG HF HN IH; first | (simp_all; done) | grind
       intro c84 h84
       refine Zb ?_
       rcases Zh h84 with ⟨rfl, g84⟩ | ⟨rfl, g84⟩
       ·refine Zn V (Zt (Yn (Zb (Zc (Za 93 V V V (Yt V V V (Uh _ (by omega)) ?_))))))
        refine Za 66 V V V (Zd V V (Vq (Yv ?_)))
        rw [if_neg (fun q => g84 ((hpq _).1 q))] at hf; exact ⟨i + 1, ⟨by show i + 1 ≤ gs.length; omega, hf⟩, by show gs.length - (i + 1) < gs.length - i; omega, by4, by3⟩
       ·refine Zr V (Zf ?_)
        rw [if_pos ((hpq _).2 g84)] at hf
        have hsp := hsh i _ hf.symm hxg
        rw [hsp] at hr
        have HUg := HU (Pr.mk gc ⟨gtk, gts, gtn, gtl⟩) i g84.2
        obtain ⟨h1r, h2r⟩ := Prod.mk.inj hr
        rw [h1r] at HUg
        simp only [Pf.cells] at HUg
        refine Zc (Za 85 V V V (Yc (cs' := [_, _, _]) V Wf V V V (Za 86 V V V (Zg V Wy V (Za 87 V V V (Zl (i := 0) V Xd V V V (Za 88 V V V (Zj V Wy V V (Za 89 V V V (Zp V Xd V V (Za 90 V V V (Zd V V (Za 91 V V V (Yj (ns := [0, 1]) (xs := [.const (.int .i64 1), .tmp 90]) V tz_30 V tfl_30 V V V V (Za 92 V V V (Yk (xs := [.tmp 85, .tmp 87, .tmp 89, .tmp 91]) V V (HUg) by1 ?_))))))))))))))))
        refine Zq V V (Zm (cs' := [_, _, _, _]) (i := 2) V ts_30 V V V V V (Ud V) V (Za 7 V V V (Ze V V (Vq (Zb (Ya ?_))))))
        subst h2r
        first
         | exact Va (i := 0) rfl rfl rfl rfl Wu rfl by0 (Vs _) ⟨rfl, rfl⟩
         | exact Va (i := 1) rfl rfl rfl rfl Wu rfl by0 (Vs _) ⟨rfl, rfl⟩
         | exact Va (i := 2) rfl rfl rfl rfl Wu rfl by0 (Vs _) ⟨rfl, rfl⟩
         | exact Va (i := 3) rfl rfl rfl rfl Wu rfl by0 (Vs _) ⟨rfl, rfl⟩
     ·refine Zr V (Zf (Zc (Za 63 V V V (Zx (cs' := [_, _, _, _]) (i := 0) V Wu V V V V (Zq V V (Zm (cs' := [_, _, _, _]) (i := 1) V ts_30 V V V V V (Ud V) V (Za 7 V V V (Ze V V (Vq (Zb (Ya ?_)))))))))))
      rw [List.take_of_length_le (by omega)] at ha hb
      rw [if_pos ⟨rfl, hb.symm⟩, ← ha] at hr
      cases hr
      first
       | exact Va (i := 0) rfl rfl rfl rfl Wu rfl by0 (Vs _) ⟨rfl, rfl⟩
       | exact Va (i := 1) rfl rfl rfl rfl Wu rfl by0 (Vs _) ⟨rfl, rfl⟩
    ·refine Zr V (Zt (Zb (Zf (Zw (Zf ?_)))))
     obtain ⟨⟨qc, ⟨qtk, qts, qtn, qtl⟩⟩, hxq⟩ := Yu (l := l) (i := k) by7
     have hcq := Pr.cellss_get hxq
     have hmq := Ui hxq
     have HP := IH _ hmq
     have hsq := Wa hxq
     obtain ⟨⟨⟨yk, yn, yc, yl⟩, c50⟩, hy⟩ : ∃ z, F (Pr.mk qc ⟨qtk, qts, qtn, qtl⟩) = z := ⟨_, rfl⟩
     rw [hy] at HP
     simp only [Pf.cells, Ty.cells] at HP
     refine Zc (Za 42 V V V (Yd V te_22 V (.seq _ _) V V (hcq) (Za 43 V V V (Yc (cs' := [_, _, _, _, _]) V ta_27 V V V (Za 13 V V V (Zy (cs' := [_, _, _, _, _]) V tz_27 V V ?_)))))); intro b13
     refine Zq V V (Zm (cs' := [_, _, _, _, _]) (i := 0) V ts_27 V V V V V (Ud V) V (Vq (Zb (Zf (Zc (Za 45 V V V (Yc (cs' := [_, _, _]) V Wf V V V (Za 46 V V V (Zd V V (Za 47 V V V (Zx (cs' := [_, _, _, _, _]) (i := 0) V ta_27 V V V V (Za 48 V V V (Yk (xs := [.tmp 45, .tmp 46, .tmp 47]) V V (HP) by1 ?_)))))))))))))
     refine Za 44 V V V (Zd V V (Za 49 V V V (Xc V V V (Za 50 V V V (Xc V V V (Za 14 V V V (Zy (cs' := [_, _, _, _]) V tz_30 V V ?_))))))); intro b14
     refine Zq V V (Zm (cs' := [_, _, _, _]) (i := 0) V ts_30 V V V V V (Ud V) V (Za 15 V V V (Ze V V (Vq (Zb (Zf (Xj 10 (c10 = true ∧ c50 = true) ?_ _ _ V ?_)))))))
     ·skip
      refine Za 51 V V V (Zd V V ?_)
      have h51 : (c10 = true ↔ c10 = true) := Iff.rfl
      refine Za 52 V V V (Zd V V ?_)
      rcases Zh h51 with ⟨rfl, g51⟩ | ⟨rfl, g51⟩
      ·skip
       refine Zi 53 V V V V V (Za 54 V V V (Zo V V V (Za 10 V V V (Ze V V (Vq (Ub V ?_ by5 by3))))))
       first | (simp_all; done) | grind
      ·skip
       refine Zk 53 V V V V V (Zd V V ?_)
       have h53 : (c50 = true ↔ c50 = true) := Iff.rfl
       refine Za 54 V V V (Zo V V V (Za 10 V V V (Ze V V (Vq (Ub V ?_ by5 by3)))))
       first | (simp_all; done) | grind
     intro c10 h10
     refine Zb (Zc (Za 55 V V V (Zg V tf_30_3 V (Za 56 V V V (Zl (i := 2) V ta_28 V V V (Za 57 V V V (Zx (cs' := [_, _, _, _]) (i := 0) V Wu V V V V (Za 58 V V V (Yb (xs := [.tmp 57]) el_28 V V V V V V (Ud V) (Za 59 V V V (Xg (i := 4) el_28 V V V V (.seq _ _) by6 ?_)))))))))))
     intro u59
     refine Za 60 V V V (Zg V tf_30_3 V (Zq V V (Zm (cs' := [_, _, _, _]) (i := 2) V ts_28 V V V V V (Ud V) V (Vq (Yn (Zb (Zc (Za 61 V V V (Yt V V V (Uh _ (by omega)) ?_)))))))))
     refine Za 40 V V V (Zd V V (Vq (Yv ?_)))
     exact ⟨(k + 1, c10, acc ++ [Pf.mk yk yn yc yl], u59), ⟨by show k + 1 ≤ l.length; omega, by show acc ++ _ = _; rw [hsq, List.map_append, ← ha]; simp [hy], by show c10 = _; rw [hsq, List.all_append, ← hb]; exact Bool.eq_iff_iff.2 (h10.trans (by simp [hy]))⟩, by show l.length - (k + 1) < l.length - k; omega, by4, (Vu _ (Vu _ (Vv _ (Vz (Vx _) (Vz (Vx _) (Vz (Vx _) (Vz (Uc (by rw [Pf.cellss_app']; rfl)) (Vy _))))) (Vw V))))⟩
  ·refine Zr V (Zf (Zc (Za 23 V V V (Zd V V (Za 24 V V V (Yj (ns := [0, 1]) (xs := [.const (.int .i64 1), .tmp 23]) V tz_30 V tfl_30 V V V V (Zq V V (Zm (cs' := [_, _, _, _]) (i := 0) V ts_30 V V V V V (Ud V) V (Za 7 V V V (Ze V V (Vq (Zb (Ya ?_)))))))))))))
   rw [if_pos g22] at hr
   cases hr
   exact Va (i := 0) V V V V Wu V by0 (Vs _) ⟨V, V⟩
theorem fits_iff {v : En} (hv : EnC v) {p : Pr} {i : Nat} {y : In} (hy : v.ins[i]? = some y) : (y.c = p.c ∧ p.t.kind = 3 ∧ y.hd.name = p.t.name ∧ y.hd.kids.length = p.t.kids.length) ↔ (fitsR v p = true ∧ instI v p.c p.t.name = i) := by
 unfold fitsR
 rw [decide_eq_true_eq]
 constructor
 ·rintro ⟨h1, h2, h3, h4⟩
  have := hv.un i y hy
  rw [h1, h3] at this
  rw [this, show ((i : Int)).toNat = i by omega, hy]
  exact ⟨⟨by omega, h2, by simp [h4]⟩, V⟩
 ·rintro ⟨⟨h1, h2, h3⟩, h4⟩
  obtain ⟨z, hz, k1, k2⟩ := instI_hit h1
  rw [h4, show ((i : Int)).toNat = i by omega, hy] at hz
  cases hz
  rw [h4, show ((i : Int)).toNat = i by omega, hy] at h3
  simp at h3
  exact ⟨k1, h2, k2, h3.symm⟩
end Go.Proofs.YtknodnfbaofngaaGreat
namespace Go.Proofs.YtknodnfbaofngaaGreat
def rowsF (W : Pr → List Pf) (l : List Pr) : List (List Pf) := l.foldl (fun out q => out.flatMap fun r => (W q).map fun x => r ++ [x]) [[]]
theorem rowsF_snoc (W : Pr → List Pf) (l : List Pr) (q : Pr) : rowsF W (l ++ [q]) = (rowsF W l).flatMap fun r => (W q).map fun x => r ++ [x] := by
 unfold rowsF
 rw [List.foldl_append]
 rfl
theorem rowsF_len {W : Pr → List Pf} : ∀ (l : List Pr) (out : List (List Pf)) (n : Nat), (∀ r ∈ out, r.length = n) → ∀ r ∈ l.foldl (fun out q => out.flatMap fun r => (W q).map fun x => r ++ [x]) out, r.length = n + l.length
 | [], out, n, h, r, hr => by simpa using h r hr
 | q :: l, out, n, h, r, hr => by
  rw [List.foldl_cons] at hr
  have := rowsF_len l _ (n + 1) (fun r hr => by
   obtain ⟨s, hs, hr⟩ := List.mem_flatMap.1 hr
   obtain ⟨x, _, rfl⟩ := List.mem_map.1 hr
   simp [h s hs]) r hr
  rw [this, List.length_cons]
  omega
theorem fm_get {α β γ : Type} {f : α → β → γ} {ws : List β} : ∀ {rs : List α} {k j : Nat} {r : α} {x : β}, rs[k]? = some r → ws[j]? = some x → (rs.flatMap fun r => ws.map (f r))[k * ws.length + j]? = some (f r x)
 | [], k, j, r, x, h, _ => by simp at h
 | s :: rs, 0, j, r, x, h, h' => by
  simp only [List.getElem?_cons_zero, Option.some.injEq] at h
  subst h
  have := (List.getElem?_eq_some_iff.1 h').1
  rw [List.flatMap_cons, List.getElem?_append_left (by simp; omega)]
  simp [h']
 | s :: rs, k + 1, j, r, x, h, h' => by
  rw [List.getElem?_cons_succ] at h
  rw [List.flatMap_cons, List.getElem?_append_right (by simp; rw [Nat.succ_mul]; omega)]
  rw [List.length_map, show (k + 1) * ws.length + j - ws.length = k * ws.length + j by rw [Nat.succ_mul]; omega]
  exact fm_get h h'
theorem fm_len {α β γ : Type} {f : α → β → γ} {ws : List β} (rs : List α) : (rs.flatMap fun r => ws.map (f r)).length = rs.length * ws.length := by
 induction rs with
 | nil => simp
 | cons s rs ih => rw [List.flatMap_cons, List.length_append, ih, List.length_map, List.length_cons, Nat.succ_mul]; omega
open Classical in
noncomputable def givsF (p : Pr) : List Pr → Nat → List Pf
 | [], _ => []
 | g :: gs, i => (if g = p then [.mk 1 i kE []] else []) ++ givsF p gs (i + 1)
def supsF (W : Pr → List Pf) (c : ByteArray) (t : Ty) (pc : ByteArray) : List ByteArray → Nat → List Pf
 | [], _ => []
 | s :: su, n => (if s = pc then (W (.mk c t)).map fun x => .mk 2 n c [x] else []) ++ supsF W c t pc su (n + 1)
def clsF (W : Pr → List Pf) (p : Pr) : List Cl → List Pf
 | [] => []
 | c :: cl => supsF W c.s p.t p.c c.su 0 ++ clsF W p cl
def insF (v : En) (W : Pr → List Pf) (p : Pr) : List Pf := if fitsR v p = true then (rowsF W (needsR v (instI v p.c p.t.name) p.t)).map fun r => .mk 3 (instI v p.c p.t.name) kE r else []
noncomputable def proofsF (v : En) (gs : List Pr) : Nat → Pr → List Pf
 | 0, _ => []
 | d + 1, p => givsF p gs 0 ++ (insF v (proofsF v gs d) p ++ clsF (proofsF v gs d) p v.cl)
theorem drop_cons {α : Type} {T : List α} {k : Nat} {x : α} {r : List α} (h : T.drop k = x :: r) : T[k]? = some x ∧ T.drop (k + 1) = r ∧ k + 1 ≤ T.length := by
 have h1 : T[k]? = some x := by
  have := congrArg (fun l => l[0]?) h
  simpa using this
 refine ⟨h1, ?_, (List.getElem?_eq_some_iff.1 h1).1⟩
 rw [← List.drop_drop, h]
 rfl
theorem drop_app {α : Type} {T : List α} {k : Nat} {A B : List α} (h : T.drop k = A ++ B) (hk : k ≤ T.length) : (∀ (j : Nat) (x : α), A[j]? = some x → T[k + j]? = some x) ∧ T.drop (k + A.length) = B ∧ k + A.length ≤ T.length := by
 refine ⟨fun j x hx => ?_, ?_, ?_⟩
 ·have := congrArg (fun l => l[j]?) h
  simp only [List.getElem?_drop] at this
  rw [this, List.getElem?_append_left (List.getElem?_eq_some_iff.1 hx).1, hx]
 ·rw [← List.drop_drop, h, List.drop_left]
 ·have := congrArg List.length h
  rw [List.length_drop, List.length_append] at this
  omega
theorem drop_end {α : Type} {T : List α} {k : Nat} (h : T.drop k = []) (hk : k ≤ T.length) : k = T.length := by
 have := congrArg List.length h
 rw [List.length_drop] at this
 simp at this
 omega
def rowsM (W : Pr → List Pf) (m : Nat) (l : List Pr) (out : List (List Pf)) : List (List Pf) := l.foldl (fun out q => (out.flatMap fun r => (W q).map fun x => r ++ [x]).take m) out
noncomputable def allM (v : En) (gs : List Pr) : Nat → Pr → Nat → List Pf
 | 0, _, _ => []
 | d + 1, p, m => (givsF p gs 0 ++ ((if fitsR v p = true then (rowsM (fun q => allM v gs d q m) m (needsR v (instI v p.c p.t.name) p.t) [[]]).map fun r => Pf.mk 3 (instI v p.c p.t.name) kE r else []) ++ clsF (fun q => allM v gs d q m) p v.cl)).take m
def Tr {α : Type} (m : Nat) (a b : List α) : Prop := a.take m = b.take m
section
variable {α β γ : Type}
theorem Tr.refl (m : Nat) (a : List α) : Tr m a a := rfl
theorem Tr.len {m : Nat} {a b : List α} (h : Tr m a b) : min m a.length = min m b.length := by
 have := congrArg List.length h
 simpa using this
theorem Tr.app {m : Nat} {a b c d : List α} (h : Tr m a b) (k : Tr m c d) : Tr m (a ++ c) (b ++ d) := by
 have hl := h.len
 unfold Tr at *
 rw [List.take_append, List.take_append, h]
 by_cases q : a.length < m
 ·rw [show b.length = a.length by omega]
  have := congrArg (List.take (m - a.length)) k
  rw [List.take_take, List.take_take, show min (m - a.length) m = m - a.length by omega] at this
  rw [this]
 ·rw [show m - a.length = 0 by omega, show m - b.length = 0 by omega, List.take_zero, List.take_zero]
theorem Tr.map {m : Nat} {a b : List α} (f : α → β) (h : Tr m a b) : Tr m (a.map f) (b.map f) := by
 unfold Tr at *
 rw [← List.map_take, ← List.map_take, h]
theorem Tr.take (m : Nat) (a : List α) : Tr m (a.take m) a := by
 unfold Tr
 rw [List.take_take, Nat.min_self]
theorem Tr.trans {m : Nat} {a b c : List α} (h : Tr m a b) (k : Tr m b c) : Tr m a c := Eq.trans h k
theorem Tr.symm {m : Nat} {a b : List α} (h : Tr m a b) : Tr m b a := Eq.symm h
theorem Tr.fm1 {m : Nat} {f : α → β → γ} {w w' : List β} (h : Tr m w w') : ∀ a : List α, Tr m (a.flatMap fun r => w.map (f r)) (a.flatMap fun r => w'.map (f r))
 | [] => Tr.refl _ _
 | r :: a => by
  rw [List.flatMap_cons, List.flatMap_cons]
  exact (h.map (f r)).app (Tr.fm1 h a)
theorem Tr.fm2 {m : Nat} {f : α → β → γ} {w : List β} (a : List α) : Tr m ((a.take m).flatMap fun r => w.map (f r)) (a.flatMap fun r => w.map (f r)) := by
 by_cases q : a.length ≤ m
 ·rw [List.take_of_length_le q]
  exact Tr.refl _ _
 ·cases w with
  | nil =>
   have e : ∀ l : List α, (l.flatMap fun r => List.map (f r) ([] : List β)) = [] := fun l => by simp
   rw [e, e]
   exact Tr.refl _ _
  | cons x w =>
   conv => rhs; rw [← List.take_append_drop m a, List.flatMap_append]
   unfold Tr
   rw [List.take_append_of_le_length]
   rw [fm_len (f := f), List.length_take, List.length_cons, Nat.mul_succ]
   have : min m a.length = m := by omega
   rw [this]
   exact Nat.le_add_left _ _
theorem Tr.fm {m : Nat} {f : α → β → γ} {w w' : List β} {a a' : List α} (h : Tr m a a') (k : Tr m w w') : Tr m (a.flatMap fun r => w.map (f r)) (a'.flatMap fun r => w'.map (f r)) := by
 refine (Tr.fm1 k a).trans ((Tr.fm2 a).symm.trans ?_)
 rw [h]
 exact Tr.fm2 a'
end
theorem rowsM_tr {W W' : Pr → List Pf} {m : Nat} (hW : ∀ q, Tr m (W' q) (W q)) : ∀ (l : List Pr) (o o' : List (List Pf)), Tr m o' o → Tr m (rowsM W' m l o') (l.foldl (fun out q => out.flatMap fun r => (W q).map fun x => r ++ [x]) o)
 | [], _, _, h => h
 | q :: l, o, o', h => by
  rw [rowsM, List.foldl_cons, List.foldl_cons]
  exact rowsM_tr hW l _ _ ((Tr.take m _).trans (Tr.fm h (hW q)))
theorem rowsM_le {W : Pr → List Pf} {m : Nat} : ∀ (l : List Pr) (o : List (List Pf)), o.length ≤ m → (rowsM W m l o).length ≤ m
 | [], _, h => h
 | q :: l, o, h => by
  rw [rowsM, List.foldl_cons]
  exact rowsM_le l _ (by rw [List.length_take]; omega)
theorem supsF_tr {W W' : Pr → List Pf} {m : Nat} (hW : ∀ q, Tr m (W' q) (W q)) (c : ByteArray) (t : Ty) (pc : ByteArray) : ∀ (su : List ByteArray) (n : Nat), Tr m (supsF W' c t pc su n) (supsF W c t pc su n)
 | [], _ => Tr.refl _ _
 | s :: su, n => by
  rw [supsF, supsF]
  refine Tr.app ?_ (supsF_tr hW c t pc su (n + 1))
  split
  ·exact (hW _).map _
  ·exact Tr.refl _ _
theorem clsF_tr {W W' : Pr → List Pf} {m : Nat} (hW : ∀ q, Tr m (W' q) (W q)) (p : Pr) : ∀ cl : List Cl, Tr m (clsF W' p cl) (clsF W p cl)
 | [] => Tr.refl _ _
 | c :: cl => by
  rw [clsF, clsF]
  exact (supsF_tr hW _ _ _ _ _).app (clsF_tr hW p cl)
theorem allM_tr (v : En) (gs : List Pr) (m : Nat) : ∀ (d : Nat) (p : Pr), Tr m (allM v gs d p m) (proofsF v gs d p)
 | 0, _ => Tr.refl _ _
 | d + 1, p => by
  have IH := allM_tr v gs m d
  rw [allM, proofsF]
  refine (Tr.take m _).trans ((Tr.refl m _).app (Tr.app ?_ (clsF_tr IH p _)))
  unfold insF
  split
  ·exact (rowsM_tr IH _ [[]] [[]] (Tr.refl _ _)).map _
  ·exact Tr.refl _ _
theorem allM_le (v : En) (gs : List Pr) (m : Nat) (d : Nat) (p : Pr) : (allM v gs d p m).length ≤ m := by
 cases d with
 | zero => simp [allM]
 | succ d => rw [allM, List.length_take]; omega
theorem allM_eq (v : En) (gs : List Pr) (m : Nat) (d : Nat) (p : Pr) : allM v gs d p m = (proofsF v gs d p).take m := by
 have h := allM_tr v gs m d p
 unfold Tr at h
 rwa [List.take_of_length_le (allM_le v gs m d p)] at h
theorem allM_zero (v : En) (gs : List Pr) (d : Nat) (p : Pr) : allM v gs d p 0 = [] := List.eq_nil_of_length_eq_zero (by have := allM_le v gs 0 d p; omega)
open Go.RowKit
def UpM (R : Mem → Prop) (M : Mem) : Prop := ∃ M', MLe M M' ∧ R M'
def IsL (p : EH → Obj → Prop) : Prop := ∀ F o, p F o → ∃ r, o = .loop r
theorem YCall.of_codeU {P : Program} {l n : Nat} {al : Sl} {ps : List Nat} {assign body : Code} {vs : List AV} {M0 : Mem} {Rn : Mem → Prop} {Rx : Code → Mem → Prop} (hps : ps.length = vs.length) (hin : (ps.all fun p => Nat.blt p n) = true)
    (h : ACode (some l) P n assign (Then (fun al1 M1 => ∀ p, IsL p → ACode (some l) P n body (RoundQ (UpM fun M => ∃ M2, M = .objp l p :: M2 ∧ Rn M2) (fun c => UpM fun M => ∃ M2, M = .objp l p :: M2 ∧ Rx c M2)) al1 (.objp l p :: M1)) (fun _ _ _ => False)) (putL al ps vs) M0) :
    YCall P l vs (lrec l n al ps.toArray assign body false none :: M0) (fun v M' => (v = .val (.bool true) ∧ ∃ M1, M' = lrec l n al ps.toArray assign body false none :: M1 ∧ Rn M1) ∨ (v = .val (.bool false) ∧ ∃ M1 c, M' = lrec l n al ps.toArray assign body false (some c) :: M1 ∧ Rx c M1)) := by
 intro B F Mf w us hi hr ro
 have hi : Inv B F (lrec l n al ps.toArray assign body false none :: (M0 ++ Mf)) w := hi
 obtain ⟨hB, hF, o, ho, _, hp⟩ := hi.ok _ (List.mem_cons_self)
 obtain ⟨r, rfl, ⟨hst, hpe⟩, hpa, has, hbo, hsl⟩ := hp F (Ext.refl F)
 have hlen := hr.len
 have hsz : us.toArray.size = r.params.size := by rw [hpa]; simp; omega
 have hfold : ((r.params.zip us.toArray).foldl (fun tmps (p : Tmp × Value) => tmps.setIfInBounds p.1 p.2) r.tmps) = (ps.zip us).foldl (fun t (p : Nat × Value) => t.setIfInBounds p.1 p.2) r.tmps := by
  rw [hpa, List.zip_toArray, List.foldl_toArray']
  simp
 refine ⟨r.fn, _, r.assign, r.body, run_yield ho hsz, roundIn_of_wpIn trivial ?_⟩
 rw [has, hbo]
 have hsl' : Slots n F (putL al ps vs) ((r.params.zip us.toArray).foldl (fun tmps (p : Tmp × Value) => tmps.setIfInBounds p.1 p.2) r.tmps) := by
  rw [hfold]
  exact putL_slots hsl hin hr hps
 have hcode := h B F (lrec l n al ps.toArray assign body false none :: Mf) { tmps := (r.params.zip us.toArray).foldl (fun tmps (p : Tmp × Value) => tmps.setIfInBounds p.1 p.2) r.tmps, defers := [] } w (Inv.mid.2 hi) hsl'
 have hcode : assign.wpIn ((RF ro).inRound l) 0 P _ _ w := hcode
 refine Code.wpIn_mono ?_ hcode
 rintro e a1 w1 ⟨Ds, F1, al1, M1, hq, hE1, hi1, hs1, hd1, hb1⟩
 cases e with
 | normal =>
  have hi1' : Inv B F1 (lrec l n al ps.toArray assign body false none :: (M1 ++ (Ds.map spent ++ Mf))) w1 := by
   refine hi1.perm ?_
   rw [← List.append_assoc, ← List.append_assoc]
   exact List.perm_middle
  obtain ⟨_, _, o1, ho1, _, hp1⟩ := hi1'.ok _ (List.mem_cons_self)
  obtain ⟨r1, rfl, ⟨hst1, hpe1⟩, hpa1, has1, hbo1, hsl1⟩ := hp1 F1 (Ext.refl F1)
  obtain ⟨_, hbl, hput⟩ := hi1'.objPut (.loop { r1 with state := .busy })
  have hi2 := hput rfl (LoopIs n al ps.toArray assign body true none) (fun F' e => ⟨_, rfl, rfl, hpa1, has1, hbo1, hsl1.mono e⟩)
  refine ⟨_, run_beginRound ho1 hst1, ?_⟩
  have hi2' : Inv B F1 ((lrec l n al ps.toArray assign body true none :: M1) ++ (Ds.map spent ++ Mf)) (w1.putObj l (.loop { r1 with state := .busy })) := hi2
  have hbody := hq _ (fun F o ⟨r, h, _⟩ => ⟨r, h⟩) B F1 (Ds.map spent ++ Mf) a1 _ hi2' hs1
  have hbody : body.wpIn ((RF ro).inRound l) 0 P _ a1 _ := hbody
  refine Code.wpIn_mono ?_ hbody
  rintro e a2 w2 ⟨Ds2, F2, al2, M2', hq2, hE2, hi3, hs2, hd2, hb2⟩
  have fin : ∀ (M2 : Mem), MLe M2' (lrec l n al ps.toArray assign body true none :: M2) → ∀ jump : Option Code, ∃ w', (Instr.endRound l jump).run P w2 = .ok (.bool jump.isNone) w' ∧ Inv B F2 ((lrec l n al ps.toArray assign body false jump :: M2) ++ Mf) w' ∧ Below B w w' := by
   intro M2 hle jump
   have hi3 := hi3.le hle
   have hi3' : Inv B F2 (lrec l n al ps.toArray assign body true none :: (M2 ++ (Ds2.map spent ++ (Ds.map spent ++ Mf)))) w2 := hi3
   obtain ⟨_, _, o3, ho3, _, hp3⟩ := hi3'.ok _ (List.mem_cons_self)
   obtain ⟨r3, rfl, hst3, hpa3, has3, hbo3, hsl3⟩ := hp3 F2 (Ext.refl F2)
   obtain ⟨_, hbl4, hput4⟩ := hi3'.objPut (.loop { r3 with state := if jump.isNone then .ready else .done, pending := jump })
   have hi4 := hput4 rfl (LoopIs n al ps.toArray assign body false jump) (fun F' e => ⟨_, rfl, ⟨rfl, rfl⟩, hpa3, has3, hbo3, hsl3.mono e⟩)
   refine ⟨_, run_endRound jump ho3, ?_, ((hb1.trans hbl).trans hb2).trans hbl4⟩
   refine hi4.sub ?_
   rw [List.cons_append]
   exact List.Sublist.cons_cons _ (List.Sublist.append (List.Sublist.refl _) (List.Sublist.trans (List.sublist_append_right _ _) (List.sublist_append_right _ _)))
  cases e with
  | normal =>
   obtain ⟨_, hM2, M2, rfl, hq2⟩ := hq2
   obtain ⟨w', h1, h2, h3⟩ := fin M2 hM2 none
   exact ⟨_, w', h1, _, _, _, F2, V, .inl ⟨V, M2, V, hq2⟩, .val _, hE1.trans hE2, h2, h3⟩
  | ret =>
   obtain ⟨_, hM2, M2, rfl, hq2⟩ := hq2
   obtain ⟨w', h1, h2, h3⟩ := fin M2 hM2 (some .ret)
   exact ⟨_, w', h1, _, _, _, F2, V, .inr ⟨V, M2, _, V, hq2⟩, .val _, hE1.trans hE2, h2, h3⟩
  | exit id =>
   obtain ⟨_, hM2, M2, rfl, hq2⟩ := hq2
   obtain ⟨w', h1, h2, h3⟩ := fin M2 hM2 (some (.exit id))
   exact ⟨_, w', h1, _, _, _, F2, V, .inr ⟨V, M2, _, V, hq2⟩, .val _, hE1.trans hE2, h2, h3⟩
  | goto t =>
   obtain ⟨_, hM2, M2, rfl, hq2⟩ := hq2
   obtain ⟨w', h1, h2, h3⟩ := fin M2 hM2 (some (.goto t))
   exact ⟨_, w', h1, _, _, _, F2, V, .inr ⟨V, M2, _, V, hq2⟩, .val _, hE1.trans hE2, h2, h3⟩
  | panic c => exact hq2.elim
  | outgrown => exact hq2.elim
 | exit id => exact hq.elim
 | goto t => exact hq.elim
 | ret => exact hq.elim
 | panic c => exact hq.elim
 | outgrown => exact hq.elim
theorem c_rangeU {P : Program} {n : Nat} {ks : List Kont} {Q : Exit → Sl → Mem → Prop} {al : Sl} {M : Mem} {g : Operand} {f : FuncId} {fs cs : List AV} {xs : List (List AV)} {ps : List Nat} {assign body : Code} (hg : al.ev g = some (.clo (.func f) fs cs)) (hit : Iter P f fs cs xs)
    (J : Nat → Mem → Prop) (Jx : Code → Mem → Prop) (h0 : J 0 M) (hps : ∀ x ∈ xs, ps.length = x.length) (hin : (ps.all fun p => Nat.blt p n) = true)
    (hbody : ∀ (l k : Nat) (x : List AV) (M0 : Mem), xs[k]? = some x → J k M0 → ACode (some l) P n assign (Then (fun al1 M1 => ∀ p, IsL p → ACode (some l) P n body (RoundQ (UpM fun M => ∃ M2, M = .objp l p :: M2 ∧ J (k + 1) M2) (fun c => UpM fun M => ∃ M2, M = .objp l p :: M2 ∧ Jx c M2)) al1 (.objp l p :: M1)) (fun _ _ _ => False)) (putL al ps x) M0)
    (hdone : ∀ M', J xs.length M' → AGo none P n ks Q al M') (hjump : ∀ c M', Jx c M' → ACode none P n c (after none P n ks Q) al M') :
    ACode none P n (.rangeFunc g ps.toArray assign body) (after none P n ks Q) al M := by
 intro B F Mf a w hi hs
 have h := hs.ev hg
 generalize he : a.eval g = u at h
 cases h with
 | clo _ hvf hvc =>
  rename_i vf vc
  refine wpIn_rangeFunc fun fn _ => ?_
  have hi1 := hi.newObj (.deferred (some [])) rfl (fun _ o' => o' = .deferred (some [])) (fun _ _ => rfl)
  let r0 : Loop := { state := .ready, pending := none, fn := fn, tmps := a.tmps, params := ps.toArray, assign := assign, body := body, defers := w.heap.size }
  have hi2 := hi1.newObj (.loop r0) rfl (LoopIs n al ps.toArray assign body false none) (fun F' e => ⟨r0, rfl, ⟨rfl, rfl⟩, rfl, rfl, rfl, hs.mono e⟩)
  have hl : (w.alloc (.deferred (some []))).heap.size = w.heap.size + 1 := by simp
  rw [hl] at hi2
  have hit' := hit (w.heap.size + 1) (fun k M => ∃ M0, M = lrec (w.heap.size + 1) n al ps.toArray assign body false none :: M0 ∧ J k M0) (fun _ M => ∃ M0 c, M = lrec (w.heap.size + 1) n al ps.toArray assign body false (some c) :: M0 ∧ Jx c M0) (by
   rintro k x M0 hx ⟨M1, rfl, hJ⟩
   refine YCall.mono (YCall.of_codeU (hps x (Ui hx)) hin (hbody _ k x M1 hx hJ)) ?_
   rintro v M' (⟨rfl, M2, rfl, h2⟩ | ⟨rfl, M2, c, rfl, h2⟩)
   ·exact .inl ⟨V, M2, V, h2⟩
   ·exact .inr ⟨V, M2, c, V, h2⟩) (lrec (w.heap.size + 1) n al ps.toArray assign body false none :: M) ⟨M, V, h0⟩
  have hB1 : Below B w ((w.alloc (.deferred (some []))).alloc (.loop r0)) := (alloc_below _ hi.base).trans (alloc_below _ (by have := hi.base; simp; omega))
  have hi2' : Inv B F ((lrec (w.heap.size + 1) n al ps.toArray assign body false none :: M) ++ (spent w.heap.size :: Mf)) ((w.alloc (.deferred (some []))).alloc (.loop r0)) := by
   refine hi2.perm ?_
   rw [List.cons_append]
   exact (List.Perm.cons _ (List.perm_middle (a := spent w.heap.size) (l₁ := M) (l₂ := Mf))).symm
  let W1 : World := (w.alloc (.deferred (some []))).alloc (.loop r0)
  refine ⟨w.heap.size + 1, [mark w.heap.size], W1, { target := .fn (.func f) vc.toArray, args := (vf ++ [Value.func (.yield (w.heap.size + 1)) #[] #[]]).toArray }, W1, f, (vf ++ [Value.func (.yield (w.heap.size + 1)) #[] #[]] ++ vc).toArray, W1, run_enterLoop_outer fn a.tmps ps.toArray assign body, ?_, fun _ _ => trivial, ?_, fun q => by simp [Fence.wide] at q, ?_⟩
  ·have hc : a.eval (.const (.func (.yield (w.heap.size + 1)) #[] #[])) = .func (.yield (w.heap.size + 1)) #[] #[] := rfl
   simp [resolve, he, Deferred.ofValue, hc]
  ·simp only [invoke, List.append_toArray]
   exact hit'.ent _ _
  ·refine callsIn_RF.2 ((hit'.run B F (spent w.heap.size :: Mf) _ _ hi2' ((hvf.app (Rels.cons (.val _) .nil)).app hvc)).mono ?_)
   rintro e w3 ⟨u, v, M', F', rfl, hor, _, hE, hi3, hb3⟩
   rcases hor with ⟨M0, rfl, hJ⟩ | ⟨_, _, M0, c, rfl, hJ⟩
   ·have hi3 : Inv B F' (lrec (w.heap.size + 1) n al ps.toArray assign body false none :: (M0 ++ (spent w.heap.size :: Mf))) w3 := hi3
    obtain ⟨_, _, o3, ho3, _, hp3⟩ := hi3.ok _ (List.mem_cons_self)
    obtain ⟨r3, rfl, ⟨hst3, hpe3⟩, _⟩ := hp3 F' (Ext.refl F')
    obtain ⟨hi4, hbl4, _⟩ := hi3.objPut (.loop { r3 with state := .exhausted })
    have hend : (Instr.endLoop (w.heap.size + 1)).run P w3 = .ok (none) (w3.putObj (w.heap.size + 1) (.loop { r3 with state := .exhausted })) := by
     rw [run_endLoop (P := P) ho3 (by rw [hst3]; simp), hpe3]
    refine ⟨none, _, hend, ?_⟩
    exact ⟨[w.heap.size], F', al, M0, hdone M0 hJ, hE, hi4, hs.mono hE, V, (hB1.trans hb3).trans hbl4⟩
   ·have hi3 : Inv B F' (lrec (w.heap.size + 1) n al ps.toArray assign body false (some c) :: (M0 ++ (spent w.heap.size :: Mf))) w3 := hi3
    obtain ⟨_, _, o3, ho3, _, hp3⟩ := hi3.ok _ (List.mem_cons_self)
    obtain ⟨r3, rfl, ⟨hst3, hpe3⟩, _⟩ := hp3 F' (Ext.refl F')
    obtain ⟨hi4, hbl4, _⟩ := hi3.objPut (.loop { r3 with state := .exhausted })
    have hend : (Instr.endLoop (w.heap.size + 1)).run P w3 = .ok (some c) (w3.putObj (w.heap.size + 1) (.loop { r3 with state := .exhausted })) := by
     rw [run_endLoop (P := P) ho3 (by rw [hst3]; simp), hpe3]
    refine ⟨some c, _, hend, ?_⟩
    refine Code.wpIn_mono ?_ (hjump c M0 hJ B F' (spent w.heap.size :: Mf) { a with defers := mark w.heap.size :: a.defers } _ hi4 (hs.mono hE))
    intro e a5 w5 hp
    exact PostD.next (Ds := [w.heap.size]) hE ((hB1.trans hb3).trans hbl4) hp
theorem c_rangeN {P : Program} {n l0 i0 : Nat} {p0 : EH → Obj → Prop} {ks : List Kont} {Q : Exit → Sl → Mem → Prop} {al : Sl} {M : Mem} {g : Operand} {f : FuncId} {fs cs : List AV} {xs : List (List AV)} {ps : List Nat} {assign body : Code} (hg : al.ev g = some (.clo (.func f) fs cs)) (hit : Iter P f fs cs xs) (hm : M[i0]? = some (.objp l0 p0)) (hp0 : IsL p0)
    (J : Nat → Mem → Prop) (Jx : Code → Mem → Prop) (h0 : J 0 M) (hps : ∀ x ∈ xs, ps.length = x.length) (hin : (ps.all fun p => Nat.blt p n) = true)
    (hbody : ∀ (l k : Nat) (x : List AV) (M0 : Mem), xs[k]? = some x → J k M0 → ACode (some l) P n assign (Then (fun al1 M1 => ∀ p, IsL p → ACode (some l) P n body (RoundQ (UpM fun M => ∃ M2, M = .objp l p :: M2 ∧ J (k + 1) M2) (fun c => UpM fun M => ∃ M2, M = .objp l p :: M2 ∧ Jx c M2)) al1 (.objp l p :: M1)) (fun _ _ _ => False)) (putL al ps x) M0)
    (hdone : ∀ M', J xs.length M' → AGo (some l0) P n ks Q al M') (hjump : ∀ c M', Jx c M' → ACode (some l0) P n c (after (some l0) P n ks Q) al M') :
    ACode (some l0) P n (.rangeFunc g ps.toArray assign body) (after (some l0) P n ks Q) al M := by
 intro B F Mf a w hi hs
 have h := hs.ev hg
 generalize he : a.eval g = u at h
 cases h with
 | clo _ hvf hvc =>
  rename_i vf vc
  refine wpIn_rangeFunc fun fn _ => ?_
  obtain ⟨_, _, o0, ho0, _, hpo⟩ := hi.ok _ (List.mem_append_left _ (Ui hm))
  obtain ⟨r00, rfl⟩ := hp0 F _ (hpo F (Ext.refl F))
  let r0 : Loop := { state := .ready, pending := none, fn := fn, tmps := a.tmps, params := ps.toArray, assign := assign, body := body, defers := r00.defers }
  have hi2 := hi.newObj (.loop r0) rfl (LoopIs n al ps.toArray assign body false none) (fun F' e => ⟨r0, rfl, ⟨rfl, rfl⟩, rfl, rfl, rfl, hs.mono e⟩)
  have hit' := hit (w.heap.size) (fun k M => ∃ M0, M = lrec (w.heap.size) n al ps.toArray assign body false none :: M0 ∧ J k M0) (fun _ M => ∃ M0 c, M = lrec (w.heap.size) n al ps.toArray assign body false (some c) :: M0 ∧ Jx c M0) (by
   rintro k x M0 hx ⟨M1, rfl, hJ⟩
   refine YCall.mono (YCall.of_codeU (hps x (Ui hx)) hin (hbody _ k x M1 hx hJ)) ?_
   rintro v M' (⟨rfl, M2, rfl, h2⟩ | ⟨rfl, M2, c, rfl, h2⟩)
   ·exact .inl ⟨V, M2, V, h2⟩
   ·exact .inr ⟨V, M2, c, V, h2⟩) (lrec (w.heap.size) n al ps.toArray assign body false none :: M) ⟨M, V, h0⟩
  have hB1 : Below B w (w.alloc (.loop r0)) := alloc_below _ hi.base
  let W1 : World := w.alloc (.loop r0)
  refine ⟨w.heap.size, [], W1, { target := .fn (.func f) vc.toArray, args := (vf ++ [Value.func (.yield (w.heap.size)) #[] #[]]).toArray }, W1, f, (vf ++ [Value.func (.yield (w.heap.size)) #[] #[]] ++ vc).toArray, W1, run_enterLoop_inner ho0 fn a.tmps ps.toArray assign body, ?_, fun _ _ => trivial, ?_, fun q => by simp [Fence.wide] at q, ?_⟩
  ·have hc : a.eval (.const (.func (.yield (w.heap.size)) #[] #[])) = .func (.yield (w.heap.size)) #[] #[] := rfl
   simp [resolve, he, Deferred.ofValue, hc]
  ·simp only [invoke, List.append_toArray]
   exact hit'.ent _ _
  ·refine callsIn_RF.2 ((hit'.run B F Mf _ _ hi2 ((hvf.app (Rels.cons (.val _) .nil)).app hvc)).mono ?_)
   rintro e w3 ⟨u, v, M', F', rfl, hor, _, hE, hi3, hb3⟩
   rcases hor with ⟨M0, rfl, hJ⟩ | ⟨_, _, M0, c, rfl, hJ⟩
   ·have hi3 : Inv B F' (lrec (w.heap.size) n al ps.toArray assign body false none :: (M0 ++ Mf)) w3 := hi3
    obtain ⟨_, _, o3, ho3, _, hp3⟩ := hi3.ok _ (List.mem_cons_self)
    obtain ⟨r3, rfl, ⟨hst3, hpe3⟩, _⟩ := hp3 F' (Ext.refl F')
    obtain ⟨hi4, hbl4, _⟩ := hi3.objPut (.loop { r3 with state := .exhausted })
    have hend : (Instr.endLoop (w.heap.size)).run P w3 = .ok (none) (w3.putObj (w.heap.size) (.loop { r3 with state := .exhausted })) := by
     rw [run_endLoop (P := P) ho3 (by rw [hst3]; simp), hpe3]
    refine ⟨none, _, hend, ?_⟩
    exact ⟨[], F', al, M0, hdone M0 hJ, hE, hi4, hs.mono hE, V, (hB1.trans hb3).trans hbl4⟩
   ·have hi3 : Inv B F' (lrec (w.heap.size) n al ps.toArray assign body false (some c) :: (M0 ++ Mf)) w3 := hi3
    obtain ⟨_, _, o3, ho3, _, hp3⟩ := hi3.ok _ (List.mem_cons_self)
    obtain ⟨r3, rfl, ⟨hst3, hpe3⟩, _⟩ := hp3 F' (Ext.refl F')
    obtain ⟨hi4, hbl4, _⟩ := hi3.objPut (.loop { r3 with state := .exhausted })
    have hend : (Instr.endLoop (w.heap.size)).run P w3 = .ok (some c) (w3.putObj (w.heap.size) (.loop { r3 with state := .exhausted })) := by
     rw [run_endLoop (P := P) ho3 (by rw [hst3]; simp), hpe3]
    refine ⟨some c, _, hend, ?_⟩
    refine Code.wpIn_mono ?_ (hjump c M0 hJ B F' Mf a _ hi4 (hs.mono hE))
    intro e a5 w5 hp
    exact PostD.next (Ds := []) hE ((hB1.trans hb3).trans hbl4) hp
theorem ACode.freezep {ro : Option Nat} {n' : Nat} {Q : Exit → Sl → Mem → Prop} {c : Code} {al al' : Sl} {M : Mem} {P : Program} {b i : Nat} {cs : List AV} (hm : M[i]? = some (.loc b cs))
    (hs : ∀ t v', al'.lookup t = some v' → ∃ v, al.lookup t = some v ∧ (Le v v' ∨ v = .ptr b 0 ∧ v' = .cptr cs))
    (h : ACode ro P n' c Q al' (M.eraseIdx i)) : ACode ro P n' c Q al M := by
 intro B F Mf a w hi hsl
 have hi2 := hi.perm ((perm_at hm).append_right Mf)
 rw [List.cons_append] at hi2
 obtain ⟨hB, hF, vs, T, hb, hr, h1⟩ := hi2.ok _ (List.mem_cons_self)
 have hfar := hi2.far
 rw [List.pairwise_cons] at hfar
 have hbl : b < w.heap.size := (hi2.ok _ (List.mem_cons_self)).lt (r := .loc b cs) rfl
 have hext : Ext F (F.new b vs) := by
  intro b' j x hx
  unfold EH.new
  split
  ·rename_i e; subst e; rw [hF j] at hx; simp at hx
  ·exact hx
 have hinv : Inv B (F.new b vs) (M.eraseIdx i ++ Mf) w := by
  refine ⟨hi.base, fun b' j x hx => ?_, fun r hr' => ?_, hfar.2⟩
  ·unfold EH.new at hx
   split at hx
   ·rename_i e; subst e
    rw [cell_block hb]; exact hx
   ·exact hi.fix b' j x hx
  ·refine (hi2.ok r (List.mem_cons_of_mem _ hr')).stay hext (fun b' hb' => ⟨V, fun j => ?_⟩)
   unfold EH.new
   rw [if_neg]
   intro e
   subst e
   rcases hfar.1 r hr' with k | k
   ·simp [Res.blk] at k
   ·exact k hb'.symm
 have := h B (F.new b vs) Mf a w hinv ⟨hsl.1, fun t v' e => ?_⟩
 ·exact Code.wpIn_mono (fun e a w hp => PostD.next (Ds := []) hext (Below.refl _ _) hp) this
 ·obtain ⟨v, h2, h3⟩ := hs t v' e
  obtain ⟨h4, h5⟩ := hsl.2 t v h2
  refine ⟨h4, ?_⟩
  rcases h3 with h3 | ⟨rfl, rfl⟩
  ·exact h3 _ _ (h5.mono hext)
  ·generalize a.tmps.getD t undef = y at h5
   cases h5
   exact .cptr b 0 (EH.new_lies _ _ _) (hr.mono hext) h1
theorem c_frzp {ro : Option Nat} {P : Program} {n : Nat} {ks : List Kont} {Q : Exit → Sl → Mem → Prop} {c : Code} {al : Sl} {M : Mem} {b i : Nat} {cs : List AV} (t : Nat) (hm : M[i]? = some (.loc b cs)) (ht : al.lookup t = some (.ptr b 0)) (h : ACode ro P n c (after ro P n ks Q) ((t, .cptr cs) :: al) (M.eraseIdx i)) : ACode ro P n c (after ro P n ks Q) al M :=
 ACode.freezep hm (fun t' v' e => by
  by_cases q : t' = t
  ·subst q
   simp only [List.lookup_cons, beq_self_eq_true, Option.some.injEq] at e
   exact ⟨_, ht, .inr ⟨V, e.symm⟩⟩
  ·rw [List.lookup_cons, show (t' == t) = false by simpa using q] at e
   exact ⟨_, e, .inl (Vx _)⟩) h
theorem CloneP_c (ks : List Pf) (hb : ks.length ≤ 100000000) : OCall Tryz.prog 100 [.seq 4 (Pf.cellss ks)] 30 4 (Pf.cellss ks) := by
 have hl := Pf.cellss_len ks
 refine Zu Tryz.func100 V (by kernel_rfl) V (Ud V) ?_
 refine Yf (Zf (Zc (Za 2 V V V (Ze V V (Vq (Zb (Zf (Zf (Zc (Za 3 V V V (Zd V V (Za 4 V V V (op_isnil V tu_28 V (.seq _ _) ?_)))))))))))))
 intro c4 h4
 refine Vq (Zb ?_)
 rcases c4 with _ | _
 ·refine Zn V (Zt (Zb (Zf (Zc (Za 5 V V V (op_buildSlice_own (xs := []) el_28 V V V V V V (Ud V) ?_)))))); intro u5
  refine Za 6 V V V (Zd V V (Za 7 V V V (Xg (i := 0) el_28 V V V V (.seq _ _) by6 ?_)))
  intro u7
  exact Za 2 V V V (Ze V V (Vq (Zb (Ya (Yg V V (Vx _) by3 ⟨_, V, V⟩)))))
 ·refine Zr V (Zf (Zc (Za 2 V V V (Ze V V (Vq (Zb (Xx 30 4 (Ya ?_))))))))
  rw [h4 rfl]; exact Yg rfl rfl (Le.nilOwn 4) (Vr _) ⟨_, rfl, rfl⟩
def fAV (v : En) (gs : List Pr) : AV := .cptr (v.cells ++ [.seq 5 (Pr.cellss gs)])
theorem proofs_c (v : En) (gs : List Pr) (p : Pr) (d : Int) : PCall Tryz.prog 47 [fAV v gs, .agg p.cells, .val (.int .i64 d)] (.clo (.func 76) [] [.cptr [.val (.int .i64 d)], .cptr [fAV v gs], .cptr p.cells]) := by
 obtain ⟨pc, ⟨pk, ps, pn, pl⟩⟩ := p
 simp only [Pr.cells, Ty.cells]
 unfold fAV
 refine Zu Tryz.func47 V (by kernel_rfl) V (Ud V) ?_
 exact Yf (Zf (Zc (Za 3 V V V (Xb (cs' := [_]) V V V V (Za 4 V V V (Xb (cs' := [_, _, _, _, _]) V V V V (Za 5 V V V (Xb (cs' := [_]) V V V V (Za 6 V V V (Ze V V (Vq (Zb (Zf (Zc (Za 7 V V V (op_makeFunc (fs := []) (cs := [.tmp 5, .tmp 3, .tmp 4]) V V V (Za 6 V V V (Ze V V (Vq (Zb (Ya (Yg V V (Vx _) by3 ⟨V, V⟩))))))))))))))))))))))
theorem rows_c (v : En) (gs : List Pr) (es : List (List AV)) (d : Int) : PCall Tryz.prog 77 [fAV v gs, .seq 5 es, .val (.int .i64 d)] (.clo (.func 99) [] [.cptr [.seq 5 es], .cptr [fAV v gs], .cptr [.val (.int .i64 d)]]) := by
 unfold fAV
 refine Zu Tryz.func77 V (by kernel_rfl) V (Ud V) ?_
 exact Yf (Zf (Zc (Za 3 V V V (Xb (cs' := [_]) V V V V (Za 4 V V V (Xb (cs' := [_]) V V V V (Za 5 V V V (Xb (cs' := [_]) V V V V (Za 6 V V V (Ze V V (Vq (Zb (Zf (Zc (Za 7 V V V (op_makeFunc (fs := []) (cs := [.tmp 4, .tmp 3, .tmp 5]) V V V (Za 6 V V V (Ze V V (Vq (Zb (Ya (Yg V V (Vx _) by3 ⟨V, V⟩))))))))))))))))))))))
def rowA (r : List Pf) : List AV := [.seq 4 (Pf.cellss r)]
def pfA (x : Pf) : List AV := [.agg x.cells]
theorem rowsIt_nil (fv : AV) (dv : Int) : Iter Tryz.prog 99 [] [.cptr [.seq 5 []], .cptr [fv], .cptr [.val (.int .i64 dv)]] (([[]] : List (List Pf)).map rowA) := by
 intro l J Jx hy M0 h0
 have hy0 := hy 0 (rowA []) M0 rfl h0
 simp only [rowA, Pf.cellss] at hy0
 refine Zu Tryz.func99 V (by kernel_rfl) V (Ud V) ?_
 refine Yf (Zf (Zc (Za 4 V V V (Xb (cs' := [_]) V V V V (Vq (Zb (Zf (Zf (Zc (Za 8 V V V (Zp V ta_22 V V ?_)))))))))))
 refine Za 9 V V V (Yx V tu_22 V (.seq _ _) (fun n9 => ?_))
 refine Za 10 V V V (Yw V V V ?_); intro c10 h10
 refine Vq (Zb ?_)
 rcases Zh h10 with ⟨rfl, g10⟩ | ⟨rfl, g10⟩
 ·exact absurd V g10
 ·refine Zr V (Zf (Zc (Za 11 V V V (Zp V ta_158 V V ?_))))
  refine Za 12 V V V (op_yield (xs := [.const (.slice none 0 0)])  [] V V V V hy0 (Vz (Le.nil _) (Vy _)) (fun v12 M12 h12 => ?_))
  obtain ⟨c12, rfl, hT, hF⟩ := yres h12
  refine Vq (Zb (Ya (out_none' V (Vr _) ?_)))
  cases c12
  ·exact .inr ⟨1, by simp, hF V⟩
  ·exact .inl (hT V)
theorem rowsIt_snoc (v : En) (gs : List Pr) (dv : Int) (l : List Pr) (n : Nat) (q : Pr) (hn : l.length = n + 1) (hq : l[n]? = some q) (R : List (List Pf)) (W : List Pf) (hR : ∀ r ∈ R, r.length ≤ 100000000)
    (HR : Iter Tryz.prog 99 [] [.cptr [.seq 5 ((Pr.cellss l).take n)], .cptr [fAV v gs], .cptr [.val (.int .i64 dv)]] (R.map rowA))
    (HW : Iter Tryz.prog 76 [] [.cptr [.val (.int .i64 dv)], .cptr [fAV v gs], .cptr q.cells] (W.map pfA)) :
    Iter Tryz.prog 99 [] [.cptr [.seq 5 (Pr.cellss l)], .cptr [fAV v gs], .cptr [.val (.int .i64 dv)]] ((R.flatMap fun r => W.map fun x => r ++ [x]).map rowA) := by
 intro lp J Jx hy M0 h0
 have hcl := Pr.cellss_len l
 have hcq := Pr.cellss_get hq
 have HC := rows_c v gs ((Pr.cellss l).take n) dv
 have HP := proofs_c v gs q dv
 have HK := fun r hr => CloneP_c r (hR r hr)
 have hy' : ∀ k j r x M, R[k]? = some r → W[j]? = some x → J (k * W.length + j) M → YCall Tryz.prog lp [.seq 4 (Pf.cellss r ++ [x.cells])] M (fun v M' => (v = .val (.bool true) ∧ J (k * W.length + j + 1) M') ∨ (v = .val (.bool false) ∧ Jx (k * W.length + j + 1) M')) := fun k j r x M hr hx hJ => by
  have := hy (k * W.length + j) (rowA (r ++ [x])) M (by rw [List.getElem?_map, fm_get (f := fun r x => r ++ [x]) hr hx]; rfl) hJ
  rw [rowA, Pf.cellss_app'] at this
  exact this
 have hlen : ((R.flatMap fun r => W.map fun x => r ++ [x]).map rowA).length = R.length * W.length := by rw [List.length_map, fm_len (f := fun r x => r ++ [x])]
 rw [hlen]
 have hle : ∀ k j, k < R.length → j < W.length → k * W.length + j + 1 ≤ R.length * W.length := fun k j hk hj => by
  have : (k + 1) * W.length ≤ R.length * W.length := Nat.mul_le_mul_right _ hk
  rw [Nat.succ_mul] at this
  omega
 clear hy hlen
 generalize fAV v gs = fv at *
 obtain ⟨qc, ⟨qk, qs, qn, ql⟩⟩ := q
 simp only [Pr.cells, Ty.cells] at hcq HP HW
 refine Zu Tryz.func99 V (by kernel_rfl) V (Ud V) ?_
 refine Yf ?_
 refine c_lenp (t := 1) (j := 0) V V (.seq _ _) (fun hmax => ?_)
 refine Zf (Zc (Za 4 V V V (Xb (cs' := [_]) V V V V (Vq (Zb (Zf (Zf (Zc (Za 8 V V V (Zp V ta_22 V V ?_))))))))))
 refine Za 9 V V V (Yx V tu_22 V (.seq _ _) (fun n9 => ?_))
 refine Za 10 V V V (Yw V V V ?_); intro c10 h10
 refine Vq (Zb ?_)
 rcases Zh h10 with ⟨rfl, g10⟩ | ⟨rfl, g10⟩
 ·refine Zn V (Zt (Zb (Zf (Zc (Za 13 V V V (Zp V ta_22 V V ?_))))))
  refine Za 14 V V V (Yx V tu_22 V (.seq _ _) (fun n14 => ?_))
  refine Za 15 V V V (op_sub V V V (Uh _ (by omega)) ?_)
  refine Za 5 V V V (Zy (cs' := [_]) V tz_3 V V ?_); intro b5
  refine Zq V V (Zm (cs' := [_]) (i := 0) V Wh V V V V V (Ud V) V (Vq (Zb (Zf ?_))))
  rw [show ((Pr.cellss l).length : Int) - 1 = n by omega]
  refine Wo Wk V (Zs 16 V V (Zp V ta_83 V V ⟨V, V⟩) ?_)
  refine Zs 17 V V (Zp V ta_22 V V ⟨V, V⟩) ?_
  refine Zs 18 V V (Zl (i := 0) V Xf V V V ⟨V, V⟩) ?_
  refine Zs 19 V V (op_cuth (k := n) V te_22 V (.seq _ _) V (by omega) (by omega) ⟨V, V⟩) ?_
  refine Zs 20 V V (Zp V Xf V V ⟨V, V⟩) ?_
  refine Zs 21 V V (Yk (xs := [.tmp 16, .tmp 19, .tmp 20]) V V (HC) by1 ⟨V, V⟩) ?_
  show AGo _ _ _ _ _ _ _
  refine Zb (Zw ?_)
  refine c_rangeU (xs := R.map rowA) (ps := [22]) V (HR) (fun k M => ∃ M1, M = .loc b5 [.val (.int .i64 n)] :: M1 ∧ J (k * W.length) M1) (fun c M => c = .ret ∧ ∃ M1 kk, M = .loc b5 [.val (.int .i64 n)] :: M1 ∧ kk ≤ R.length * W.length ∧ Jx kk M1) (⟨_, V, by rw [Nat.zero_mul]; exact h0⟩) (by simp [rowA]) V ?_ ?_ ?_
  ·rintro l5 k5 x5 M0 hx hJ
   obtain ⟨M1, rfl, hJ1⟩ := hJ
   simp only [List.getElem?_map, Option.map_eq_some_iff] at hx
   obtain ⟨r, hxr, rfl⟩ := hx
   have hkr := get_lt hxr
   have hrl := Pf.cellss_len r
   have hrb := hR r (Ui hxr)
   have HKr := HK r (Ui hxr)
   have hy2 := fun j x M => hy' k5 j r x M hxr
   refine c_asg (Zc (Za 6 V V V (Zy (cs' := [_]) V tz_28 V V ?_))); intro b6
   refine Zq V V (Zm (cs' := [_]) (i := 0) V ts_28 V V V V V (Ud V) V (Vq (Yv ?_)))
   intro p5 hp5
   show ACode _ _ _ _ _ _ _
   refine Yf (Zw (Zf (c_frzp (i := 1) 6 V V (Wo Wk V (Zs 23 V V (Zp V ta_83 V V ⟨V, V⟩) ?_)))))
   refine Zs 24 V V (Zp V ta_22 V V ⟨V, V⟩) ?_
   refine Zs 25 V V (Zl (i := 1) V Xf V V V ⟨V, V⟩) ?_
   refine Zs 26 V V (Yd V te_22 V (.seq _ _) V V (hcq) ⟨V, V⟩) ?_
   refine Zs 27 V V (Yc (cs' := [_, _, _, _, _]) V ta_27 V V V ⟨V, V⟩) ?_
   refine Zs 28 V V (Zp V Xf V V ⟨V, V⟩) ?_
   refine Zs 29 V V (Yk (xs := [.tmp 23, .tmp 27, .tmp 28]) V V (HP) by1 ⟨V, V⟩) ?_
   show AGo _ _ _ _ _ _ _
   refine Zb (Zw ?_)
   refine c_rangeN (i0 := 0) (xs := W.map pfA) (ps := [30]) V (HW) V (hp5) (fun j M => ∃ M2, M = .objp l5 p5 :: .loc b5 [.val (.int .i64 n)] :: M2 ∧ J (k5 * W.length + j) M2) (fun c M => c = .ret ∧ ∃ M2 kk, M = .objp l5 p5 :: .loc b5 [.val (.int .i64 n)] :: M2 ∧ kk ≤ R.length * W.length ∧ Jx kk M2) (⟨_, V, by rw [Nat.add_zero]; exact hJ1⟩) (by simp [pfA]) V ?_ ?_ ?_
   ·rintro l7 k7 x7 M0 hx hJ
    obtain ⟨M2, rfl, hJ2⟩ := hJ
    simp only [List.getElem?_map, Option.map_eq_some_iff] at hx
    obtain ⟨⟨xk, xn, xc, xl⟩, hxw, rfl⟩ := hx
    have hkw := get_lt hxw
    have hy3 := hy2 _ _ _ hxw hJ2
    have hle3 := hle _ _ hkr hkw
    simp only [Pf.cells] at hy3
    refine c_asg (Zc (Za 7 V V V (Zy (cs' := [_, _, _, _]) V tz_30 V V ?_))); intro b7
    refine Zq V V (Zm (cs' := [_, _, _, _]) (i := 0) V ts_30 V V V V V (Ud V) V (Vq (Yv ?_)))
    intro p7 hp7
    show ACode _ _ _ _ _ _ _
    refine Yf (Zw (Zf (c_frzp (i := 1) 7 V V (Xu [0, 1, 3, 4, 2, 5, 6, 7] [2, 5, 6] [[], [], [1], [], [3], [1, 2, 3, 4], [0, 1, 2, 3, 4, 5], [0, 1, 2, 3, 4, 5, 6]] Wk V (Zz 31 (none) (i := 0) V V V V V (Zp V ta_158 V V ⟨V, V⟩) ?_)))))
    refine Zz 32 (none) (i := 1) V V V V V (Zp V ta_28 V V ⟨V, V⟩) ?_
    refine Zz 34 (none) (i := 3) V V V V V (Yc (cs' := [_, _, _, _]) V Wu V V V ⟨V, V⟩) ?_
    refine Zz 35 (none) (i := 4) V V V V V (Yb (xs := [.tmp 34]) el_28 V V V V V V (Ud V) ⟨V, V⟩) ?_
    refine EOps.wh (i := 2) V V V V (op_callo (xs := [.tmp 32]) V V (HKr) by1 ?_); intro u33
    refine Xm 0 (i := 5) V V V V V (Xg (i := 0) el_28 V V V V (.seq _ _) by6 (fun u36 => ⟨_, V, ?_⟩))
    refine EOps.wh (i := 6) V V V V (op_yield (xs := [.tmp 36])  [.own _ _ _, .objp _ _, .objp _ _, .loc b5 _] V V V V hy3 (Vz (Le.own _ _ _) (Vy _)) (fun v37 M37 h37 => ?_))
    obtain ⟨c37, rfl, hT, hF⟩ := yres h37
    refine EOps.cm 38 (i := 7) V V V V (fun _ q => We V V q) ?_; intro c38 h38
    try replace h38 := nott h38 h37
    show AGo _ _ _ _ _ _ _
    refine Zb ?_
    rcases Zh h38 with ⟨rfl, g38⟩ | ⟨rfl, g38⟩
    ·refine Zn V (Zt (Yn (go_end (⟨_, ?_, _, V, _, V, hT (by simpa using g38)⟩))))
     exact by3
    ·refine Zr V (Ya (⟨_, ?_, _, V, V, _, _, V, hle3, hF (by simpa using g38)⟩))
     exact by3
   ·rintro M9 hJ
    refine Yn (Yn ?_)
    obtain ⟨M2, rfl, hJ2⟩ := hJ
    rw [List.length_map] at hJ2
    refine go_end ?_
    refine ⟨_, ?_, _, V, _, V, by rw [Nat.succ_mul]; exact hJ2⟩
    exact by3
   ·rintro c9 M9 hJ
    obtain ⟨rfl, M2, kk, rfl, hkk, hJx⟩ := hJ
    refine Ya (⟨_, ?_, _, V, V, _, kk, V, hkk, hJx⟩)
    exact by3
  ·rintro M9 hJ
   refine Yn ?_
   obtain ⟨M1, rfl, hJ1⟩ := hJ
   rw [List.length_map] at hJ1
   refine go_end ?_
   exact out_none V (Vu _ (Vr _)) (.inl hJ1)
  ·rintro c9 M9 hJ
   obtain ⟨rfl, M1, kk, rfl, hkk, hJx⟩ := hJ
   refine Ya ?_
   exact out_none' V (Vu _ (Vr _)) (.inr ⟨kk, hkk, hJx⟩)
 ·omega
theorem proofsIt_none (v : En) (gs : List Pr) (p : Pr) (dv : Int) (hd : dv < 1) : Iter Tryz.prog 76 [] [.cptr [.val (.int .i64 dv)], .cptr [fAV v gs], .cptr p.cells] (([] : List Pf).map pfA) := by
 intro lp J Jx hy M0 h0
 obtain ⟨pc, ⟨pk, ps, pn, pl⟩⟩ := p
 simp only [Pr.cells, Ty.cells]
 generalize fAV v gs = fv
 refine Zu Tryz.func76 V (by kernel_rfl) V (Ud V) ?_
 refine Yf (Zf (Zc (Za 4 V V V (Xb (cs' := [_]) V V V V (Vq (Zb (Zf (Zf (Zc (Za 15 V V V (Zp V Xf V V (Za 16 V V V (Yq V V V ?_))))))))))))); intro c16 h16
 refine Vq (Zb ?_)
 rcases Zh h16 with ⟨rfl, g16⟩ | ⟨rfl, g16⟩
 ·omega
 ·refine Zr V (Ya ?_)
  exact out_none' V (Vr _) (.inl h0)
theorem proofsIt_some (v : En) (hv : EnG v) (gs : List Pr) (hgb : gs.length ≤ 100000) (p : Pr) (dv : Int) (hd : 1 ≤ dv) (hd2 : dv ≤ 1000000) (hp : p.t.size ≤ 1000000) (W : Pr → List Pf)
    (HR : Iter Tryz.prog 99 [] [.cptr [.seq 5 (Pr.cellss (needsR v (instI v p.c p.t.name) p.t))], .cptr [fAV v gs], .cptr [.val (.int .i64 (dv - 1))]] ((rowsF W (needsR v (instI v p.c p.t.name) p.t)).map rowA))
    (HW : ∀ c ∈ v.cl, Iter Tryz.prog 76 [] [.cptr [.val (.int .i64 (dv - 1))], .cptr [fAV v gs], .cptr (Pr.mk c.s p.t).cells] ((W (.mk c.s p.t)).map pfA)) :
    Iter Tryz.prog 76 [] [.cptr [.val (.int .i64 dv)], .cptr [fAV v gs], .cptr p.cells] ((givsF p gs 0 ++ (insF v W p ++ clsF W p v.cl)).map pfA) := by
 intro lp J Jx hy M0 h0
 rw [List.length_map]
 obtain ⟨T, hT⟩ : ∃ T, givsF p gs 0 ++ (insF v W p ++ clsF W p v.cl) = T := ⟨_, rfl⟩
 rw [hT] at hy ⊢
 have hT0 : T.drop 0 = givsF p gs 0 ++ (insF v W p ++ clsF W p v.cl) := by rw [← hT]; rfl
 clear hT
 have hy : ∀ k x M, T[k]? = some x → J k M → YCall Tryz.prog lp [.agg x.cells] M (fun v M' => (v = .val (.bool true) ∧ J (k + 1) M') ∨ (v = .val (.bool false) ∧ Jx (k + 1) M')) := fun k x M hx hJ => hy k (pfA x) M (by rw [List.getElem?_map, hx]; rfl) hJ
 have HF := fits_c v p
 have HN := Needs_c v hv (instI v p.c p.t.name) p.t hp
 have HRc := rows_c v gs (Pr.cellss (needsR v (instI v p.c p.t.name) p.t)) (dv - 1)
 have HPc := fun c : Cl => proofs_c v gs (.mk c.s p.t) (dv - 1)
 have HS := fun g => same_c g p
 have hii : fitsR v p = true → 0 ≤ instI v p.c p.t.name := fun q => by unfold fitsR at q; exact (of_decide_eq_true q).1
 unfold insF at hT0
 generalize needsR v (instI v p.c p.t.name) p.t = l at *
 generalize rowsF W l = R at *
 generalize fitsR v p = c46 at *
 generalize instI v p.c p.t.name = ii at *
 have hclb := hv.b.cl
 have hsub : ∀ c ∈ v.cl, c.su.length ≤ 100000 := fun c hc => (hv.b.cls c hc).1
 clear hv hp
 obtain ⟨pc, ⟨pk, ps, pn, pl⟩⟩ := p
 obtain ⟨da, cl, ins⟩ := v
 have hgl := Pr.cellss_len gs
 have hcl := Cl.cellss_len cl
 simp only [fAV, En.cells, Pr.cells, Ty.cells, Pr.t, En.cl, List.cons_append, List.nil_append] at *
 refine Zu Tryz.func76 V (by kernel_rfl) V (Ud V) ?_
 refine Yf (Zf (Zc (Za 4 V V V (Xb (cs' := [_]) V V V V (Vq (Zb (Zf (Zf (Zc (Za 15 V V V (Zp V Xf V V (Za 16 V V V (Yq V V V ?_))))))))))))); intro c16 h16
 refine Vq (Zb ?_)
 rcases Zh h16 with ⟨rfl, g16⟩ | ⟨rfl, g16⟩
 ·refine Zn V (Zt (Zb (Zf (Zf (Zc (Za 17 V V V (Zp V ta_83 V V (Za 18 V V V (op_nilCheck_c V V (Za 19 V V V (Zj V tf_85_1 V V (Za 20 V V V (Zp V ta_22 V V ?_)))))))))))))
  refine Za 21 V V V (Yx V tu_22 V (.seq _ _) (fun n21 => ?_))
  refine Za 22 V V V (Zd V V (Vq (Zb (Zw ?_))))
  apply Xp [0, 5, 6, 10, 15, 16, 17, 18, 19, 22, 23, 24, 25, 26, 27, 28, 29, 30, 31, 32, 33, 34, 35, 36, 37] (σ := Nat × Nat × Mem) (fun zz => match zz with | (i, k, M) => [(22, .val (.int .i64 i))]) (fun zz => match zz with | (i, k, M) => M) (fun zz => match zz with | (i, k, M) => i ≤ gs.length ∧ J k M ∧ k ≤ T.length ∧ T.drop k = givsF (.mk pc ⟨pk, ps, pn, pl⟩) (gs.drop i) i ++ ((if c46 = true then R.map (fun r => Pf.mk 3 ii kE r) else []) ++ clsF W (.mk pc ⟨pk, ps, pn, pl⟩) cl)) (fun zz => match zz with | (i, k, M) => gs.length - i) ((0, 0, M0))
  ·repeat' (first | exact Ug | apply Ue rfl | apply Uf rfl)
  ·exact ⟨Nat.zero_le _, h0, Nat.zero_le _, hT0⟩
  ·exact by4
  ·exact by3
  rintro ⟨i, k, M⟩ hI
  try dsimp only [List.cons_append, List.nil_append] at hI ⊢
  obtain ⟨hi, hJ, hk, hD⟩ := hI
  refine Zf (Zc (Za 23 V V V (Yq V V V ?_))); intro c23 h23
  refine Vq (Zb (Zf ?_))
  rcases Zh h23 with ⟨rfl, g23⟩ | ⟨rfl, g23⟩
  ·refine Zn V (Yy (Xa (Xs (Yz (Zb (Zf (Zf ?_)))))))
   rw [show gs.drop i = [] from Uj (by omega), givsF, List.nil_append] at hD
   refine Xu [0, 1, 2, 3, 4, 5, 6, 7, 8, 9, 10, 11] [9, 10] [[], [0], [0, 1], [0, 1, 2], [], [0, 1, 2, 3, 4], [0, 1, 2, 3, 4, 5], [0, 1, 2, 3, 4, 5, 6], [0, 1, 2, 3, 4, 5, 6], [], [0, 1, 2, 3, 4, 5, 6, 7, 9], [0, 1, 2, 3, 4, 5, 6, 7, 8, 9, 10]] Wk V (Zz 39 (none) (i := 0) V V V V V (Zp V ta_83 V V ⟨V, V⟩) ?_)
   refine Zz 40 (none) (i := 1) V V V V V (op_nilCheck_c V V ⟨V, V⟩) ?_
   refine Zz 41 (none) (i := 2) V V V V V (Zj V tf_85_0 V V ⟨V, V⟩) ?_
   refine Zz 42 (none) (i := 3) V V V V V (Yc (cs' := [_, _, _]) V Wf V V V ⟨V, V⟩) ?_
   refine Zz 43 (none) (i := 4) V V V V V (Yc (cs' := [_, _, _, _, _]) V ta_27 V V V ⟨V, V⟩) ?_
   refine Zz 44 (none) (i := 5) V V V V V (Yk (xs := [.tmp 42, .tmp 43]) V V (HF) by1 ⟨V, V⟩) ?_
   refine Zz 38 (none) (i := 6) V V V V V (Zd V V ⟨V, V⟩) ?_
   refine Zz 45 (none) (i := 7) V V V V V (Xc V V V ⟨V, V⟩) ?_
   refine Zz 46 (none) (i := 8) V V V V V (Xc V V V ⟨V, V⟩) ?_
   refine EOps.wh (i := 9) V V V V (Zy (cs' := [_]) V tz_3 V V ?_); intro b7
   refine Xm 0 (i := 10) V V V V V (Zm (cs' := [_]) (i := 0) V Wh V V V V V (Ud V) V ⟨_, V, ?_⟩)
   refine Zz 8 (none) (i := 11) V V V V V (Ze V V ⟨V, V⟩) ?_
   show AGo _ _ _ _ _ _ _
   refine Zb (Zf (Zc (Za 47 V V V (Zd V V (Vq (Zb ?_))))))
   apply c_joink [0, 5, 6, 7, 8, 9, 10, 15, 16, 17, 18, 19, 20, 21, 22, 23, 24, 25, 26, 27, 28, 29, 30, 31, 32, 33, 34, 35, 36, 37, 38, 39, 40, 41, 42, 43, 44, 45, 46, 47, 48, 49, 50, 51, 52, 53, 54, 55, 56, 57, 58, 59, 60, 61, 62, 63, 64, 65, 66] (σ := Nat × Mem) (fun zz => match zz with | (k, M) => []) (fun zz => match zz with | (k, M) => M) (fun zz => match zz with | (k, M) => J k M ∧ k ≤ T.length ∧ T.drop k = clsF W (.mk pc ⟨pk, ps, pn, pl⟩) cl)
   ·repeat' (first | exact Ug | apply Ue rfl | apply Uf rfl)
   ·skip
    rcases c46 with _ | _
    ·refine Zn V (Zt (Yv ?_))
     first
     | exact ⟨(k, M), ⟨hJ, hk, by simpa using hD⟩, by4, (Vu _ (Vr _))⟩
     | exact ⟨(k + R.length, M2), ⟨hJ2, hD3, hD2⟩, by4, (Vu _ (Vr _))⟩
    ·refine Zr V (Zf ?_)
     rw [if_pos rfl] at hD
     rw [show max ii 0 = ii by have := hii rfl; omega]
     obtain ⟨hD1, hD2, hD3⟩ := drop_app hD hk
     rw [List.length_map] at hD2 hD3
     refine Wo Wk V (Zs 48 V V (Zp V ta_83 V V ⟨V, V⟩) ?_)
     refine Zs 49 V V (Zp V ta_83 V V ⟨V, V⟩) ?_
     refine Zs 50 V V (op_nilCheck_c V V ⟨V, V⟩) ?_
     refine Zs 51 V V (Zj V tf_85_0 V V ⟨V, V⟩) ?_
     refine Zs 52 V V (Yc (cs' := [_, _, _]) V Wf V V V ⟨V, V⟩) ?_
     refine Zs 53 V V (Zl (i := 0) V Xf V V V ⟨V, V⟩) ?_
     refine Zs 54 V V (Zj V Wl V V ⟨V, V⟩) ?_
     refine Zs 55 V V (Yc (cs' := [_, _, _, _]) V Xq V V V ⟨V, V⟩) ?_
     refine Zs 56 V V (Yk (xs := [.tmp 52, .tmp 53, .tmp 55]) V V (HN) by1 ⟨V, V⟩) ?_
     refine Zs 57 V V (Zp V Xf V V ⟨V, V⟩) ?_
     refine Zs 58 V V (op_sub V V V (Uh _ (by omega)) ⟨V, V⟩) ?_
     refine Zs 59 V V (Yk (xs := [.tmp 48, .tmp 56, .tmp 58]) V V (HRc) by1 ⟨V, V⟩) ?_
     show AGo _ _ _ _ _ _ _
     refine Zb (Zw ?_)
     refine c_rangeU (xs := R.map rowA) (ps := [60]) V (HR) (fun j M1 => ∃ M2, M1 = .loc b7 [.val (.int .i64 ii)] :: M2 ∧ J (k + j) M2) (fun c M1 => c = .ret ∧ ∃ M2 kk, M1 = .loc b7 [.val (.int .i64 ii)] :: M2 ∧ kk ≤ T.length ∧ Jx kk M2) (⟨_, V, hJ⟩) (by simp [rowA]) V ?_ ?_ ?_
     ·rintro l10 k10 x10 M0 hx hJ
      obtain ⟨M2, rfl, hJ2⟩ := hJ
      simp only [List.getElem?_map, Option.map_eq_some_iff] at hx
      obtain ⟨r, hxr, rfl⟩ := hx
      have hkr := get_lt hxr
      have hy2 := hy _ _ _ (hD1 k10 _ (by rw [List.getElem?_map, hxr]; rfl)) hJ2
      simp only [Pf.cells] at hy2
      refine c_asg (Zc (Za 9 V V V (Ze V V (Vq (Yv ?_)))))
      intro p10 hp10
      show ACode _ _ _ _ _ _ _
      refine Yf (Zw (Zf (Zc (Za 61 V V V (Zp V ta_132 V V (Za 62 V V V (Zl (i := 1) V Xf V V V (Za 63 V V V (Zd V V (Za 64 V V V (Yj (ns := [0, 1, 3]) (xs := [.const (.int .i64 3), .tmp 62, .tmp 63]) V tz_30 V tfl_30 V V V V ?_)))))))))))
      refine Za 65 V V V (op_yield (xs := [.tmp 64])  [.objp _ _, .loc b7 _] V V V V hy2 (Vy _) (fun v65 M65 h65 => ?_))
      obtain ⟨c65, rfl, hT, hF⟩ := yres h65
      refine Za 66 V V V (We V V ?_); intro c66 h66
      try replace h66 := nott h66 h65
      refine Vq (Zb ?_)
      rcases Zh h66 with ⟨rfl, g66⟩ | ⟨rfl, g66⟩
      ·refine Zn V (Zt (Yn (go_end (⟨_, ?_, _, V, _, V, hT (by simpa using g66)⟩))))
       exact by3
      ·refine Zr V (Ya (⟨_, ?_, _, V, V, _, _, V, by omega, hF (by simpa using g66)⟩))
       exact by3
     ·rintro M9 hJ
      refine Yn ?_
      obtain ⟨M2, rfl, hJ2⟩ := hJ
      rw [List.length_map] at hJ2
      refine Yv ?_
      first
      | exact ⟨(k, M), ⟨hJ, hk, by simpa using hD⟩, by4, (Vu _ (Vr _))⟩
      | exact ⟨(k + R.length, M2), ⟨hJ2, hD3, hD2⟩, by4, (Vu _ (Vr _))⟩
     ·rintro c9 M9 hJ
      obtain ⟨rfl, M2, kk, rfl, hkk, hJx⟩ := hJ
      refine c_retj ?_
      exact out_none' V (Vu _ (Vr _)) (.inr ⟨kk, hkk, hJx⟩)
   rintro ⟨k, M⟩ hI
   try dsimp only [List.cons_append, List.nil_append] at hI ⊢
   obtain ⟨hJ, hk, hD⟩ := hI
   refine Zb (Zf (Zc (Za 67 V V V (Zp V ta_83 V V (Za 68 V V V (op_nilCheck_c V V (Za 69 V V V (Zj V tf_85_0 V V (Za 70 V V V (Zj V Wi V V (Za 71 V V V (Zp V Vj V V ?_))))))))))))
   refine Za 72 V V V (Yx V tu_35 V (.seq _ _) (fun n72 => ?_))
   refine Za 73 V V V (Zd V V (Vq (Zb (Zw ?_))))
   apply Xp [0, 5, 6, 7, 8, 9, 10, 11, 12, 13, 14, 15, 16, 17, 18, 19, 20, 21, 22, 23, 24, 25, 26, 27, 28, 29, 30, 31, 32, 33, 34, 35, 36, 37, 38, 39, 40, 41, 42, 43, 44, 45, 46, 47, 48, 49, 50, 51, 52, 53, 54, 55, 56, 57, 58, 59, 60, 61, 62, 63, 64, 65, 66, 67, 68, 69, 70, 73, 74, 75, 76, 77, 78, 79, 80, 81, 82, 83, 84, 85, 86, 87, 88, 89, 90, 91, 92, 93, 94, 95, 96, 97, 99, 100, 101, 102, 103, 104, 105, 106, 107, 108, 109] (σ := Nat × Nat × Mem) (fun zz => match zz with | (i, k, M) => [(73, .val (.int .i64 i))]) (fun zz => match zz with | (i, k, M) => M) (fun zz => match zz with | (i, k, M) => i ≤ cl.length ∧ J k M ∧ k ≤ T.length ∧ T.drop k = clsF W (.mk pc ⟨pk, ps, pn, pl⟩) (cl.drop i)) (fun zz => match zz with | (i, k, M) => cl.length - i) ((0, k, M))
   ·repeat' (first | exact Ug | apply Ue rfl | apply Uf rfl)
   ·exact ⟨Nat.zero_le _, hJ, hk, hD⟩
   ·exact by4
   ·exact by3
   rintro ⟨i, k, M⟩ hI
   try dsimp only [List.cons_append, List.nil_append] at hI ⊢
   obtain ⟨hi, hJ, hk, hD⟩ := hI
   refine Zf (Zc (Za 74 V V V (Yq V V V ?_))); intro c74 h74
   refine Vq (Zb (Zf ?_))
   rcases Zh h74 with ⟨rfl, g74⟩ | ⟨rfl, g74⟩
   ·refine Zn V (Yy (Xa (Xs (Yz (go_end (out_none V (Vr _) (.inl ?_)))))))
    rw [show cl.drop i = [] from Uj (by omega), clsF] at hD
    rw [← drop_end hD hk]
    exact hJ
   ·refine Zr V (Zt (Zb (Zf (Zw (Zf ?_)))))
    obtain ⟨⟨ys, yv, ysu, yms, yds, yp⟩, hxy⟩ := Yu (l := cl) (i := i) by7
    have hcy := Cl.cellss_get hxy
    have hmy := Ui hxy
    rw [Xn hxy, clsF] at hD
    have HPy := HPc (Cl.mk ys yv ysu yms yds yp)
    have HWy := HW _ hmy
    have hsl := hsub _ hmy
    have hls := Xy ysu
    simp only [Cl.s, Cl.su] at HPy HWy hsl hD
    refine Zc (Za 75 V V V (Yd V te_35 V (.seq _ _) V V (hcy) (Za 76 V V V (Yc (cs' := [_, _, _, _, _, _]) V ta_77 V V V (Za 11 V V V (Zy (cs' := [_, _, _, _, _, _]) V tz_77 V V ?_)))))); intro b11
    refine Zq V V (Zm (cs' := [_, _, _, _, _, _]) (i := 0) V ts_77 V V V V V (Ud V) V (Vq (Zb (Zf (Zc (Za 77 V V V (Zg V tf_77_2 V (Za 78 V V V (Zl (i := 0) V ta_68 V V V ?_)))))))))
    refine Za 79 V V V (Yx V tu_68 V (.seq _ _) (fun n79 => ?_))
    refine Za 80 V V V (Zd V V (Vq (Zb (Zw ?_))))
    apply Xp [0, 5, 6, 7, 8, 9, 10, 12, 13, 14, 15, 16, 17, 18, 19, 20, 21, 22, 23, 24, 25, 26, 27, 28, 29, 30, 31, 32, 33, 34, 35, 36, 37, 38, 39, 40, 41, 42, 43, 44, 45, 46, 47, 48, 49, 50, 51, 52, 53, 54, 55, 56, 57, 58, 59, 60, 61, 62, 63, 64, 65, 66, 67, 68, 69, 70, 80, 81, 82, 83, 84, 85, 86, 87, 88, 89, 90, 91, 92, 93, 94, 95, 96, 97, 99, 100, 101, 102, 103, 104, 105, 106, 107, 108] (σ := Nat × Nat × Mem) (fun zz => match zz with | (n, k2, Mb) => [(80, .val (.int .i64 n))]) (fun zz => match zz with | (n, k2, Mb) => .loc b11 [.val (.string ys), .val (.string yv), .seq 1 (strs ysu), .seq 6 (Me.cellss yms), .seq 13 (Bi.cellss yds), .val (.int .i64 yp)] :: Mb) (fun zz => match zz with | (n, k2, Mb) => n ≤ ysu.length ∧ J k2 Mb ∧ k2 ≤ T.length ∧ T.drop k2 = supsF W ys ⟨pk, ps, pn, pl⟩ pc (ysu.drop n) n ++ clsF W (.mk pc ⟨pk, ps, pn, pl⟩) (cl.drop (i + 1))) (fun zz => match zz with | (n, k2, Mb) => ysu.length - n) ((0, k, M))
    ·repeat' (first | exact Ug | apply Ue rfl | apply Uf rfl)
    ·exact ⟨Nat.zero_le _, hJ, hk, hD⟩
    ·exact by4
    ·exact by3
    rintro ⟨n, k2, Mb⟩ hI
    try dsimp only [List.cons_append, List.nil_append] at hI ⊢
    obtain ⟨hn, hJ2, hk2, hD2⟩ := hI
    refine Zf (Zc (Za 81 V V V (Yq V V V ?_))); intro c81 h81
    refine Vq (Zb (Zf ?_))
    rcases Zh h81 with ⟨rfl, g81⟩ | ⟨rfl, g81⟩
    ·refine Zn V (Yy (Xa (Xs (Yz (Yn (Zb ?_))))))
     rw [show ysu.drop n = [] from Uj (by omega), supsF, List.nil_append] at hD2
     refine Zc (Za 109 V V V (Yt V V V (Uh _ (by omega)) ?_))
     refine Za 73 V V V (Zd V V (Vq (Yv ?_)))
     exact ⟨(i + 1, k2, Mb), ⟨by show i + 1 ≤ cl.length; omega, hJ2, hk2, hD2⟩, by show cl.length - (i + 1) < cl.length - i; omega, by4, (Vu _ (Vr _))⟩
    ·refine Zr V (Zt (Zb (Zf (Zw (Zf ?_)))))
     obtain ⟨s, hxs⟩ := Yu (l := ysu) (i := n) by7
     have hcs := strs_get hxs
     have hms := Ui hxs
     rw [Xn hxs, supsF] at hD2
     have HZ : ¬ s = pc → _ := fun e => by
      rw [if_neg e, List.nil_append] at hD2
      exact hD2
     refine Zc (Za 82 V V V (Zd V V (Za 83 V V V (Yd V te_68 V (.seq _ _) V V (hcs) (Za 84 V V V (Zp V Xd V V (Za 12 V V V (Zy (cs' := [_]) V tz_3 V V ?_)))))))); intro b12
     refine Zq V V (Zm (cs' := [_]) (i := 0) V Wh V V V V V (Ud V) V (Za 13 V V V (Ze V V (Vq (Zb (Zf (Zf (Zc (Za 85 V V V (Zd V V (Za 86 V V V (Zj V Wy V V (Za 87 V V V (Zp V Xd V V (Za 88 V V V (op_sneq V V V ?_)))))))))))))))); intro c88 h88
     refine Vq (Zb ?_)
     rcases Zh h88 with ⟨rfl, g88⟩ | ⟨rfl, g88⟩
     ·refine Zn V (Zt (Zb (Zf ?_)))
      have he : s = pc := by simpa using g88
      rw [if_pos he, List.append_assoc] at hD2
      obtain ⟨hE1, hE2, hE3⟩ := drop_app hD2 hk2
      rw [List.length_map] at hE2 hE3
      refine Zc (Za 89 V V V (Zp V ta_83 V V (Za 90 V V V (Zg V tf_77_0 V (Za 91 V V V (Zl (i := 1) V Xd V V V (Za 92 V V V (Zj V Wl V V (Za 93 V V V (Yc (cs' := [_, _, _, _]) V Xq V V V (Za 94 V V V (Yj (ns := [0, 1]) (xs := [.tmp 91, .tmp 93]) V tz_27 V tfl_27 V V V V (Za 95 V V V (Zp V Xf V V (Za 96 V V V (op_sub V V V (Uh _ (by omega)) ?_))))))))))))))))
      refine Za 97 V V V (Yk (xs := [.tmp 89, .tmp 94, .tmp 96]) V V (HPy) by1 ?_)
      refine Vq (Zb (Zw ?_))
      refine c_rangeU (xs := (W (.mk ys ⟨pk, ps, pn, pl⟩)).map pfA) (ps := [98]) V (HWy) (fun j M1 => ∃ M3, M1 = .loc b12 [.val (.int .i64 n)] :: .loc b11 [.val (.string ys), .val (.string yv), .seq 1 (strs ysu), .seq 6 (Me.cellss yms), .seq 13 (Bi.cellss yds), .val (.int .i64 yp)] :: M3 ∧ J (k2 + j) M3) (fun c M1 => c = .ret ∧ ∃ M3 kk, M1 = .loc b12 [.val (.int .i64 n)] :: .loc b11 [.val (.string ys), .val (.string yv), .seq 1 (strs ysu), .seq 6 (Me.cellss yms), .seq 13 (Bi.cellss yds), .val (.int .i64 yp)] :: M3 ∧ kk ≤ T.length ∧ Jx kk M3) (⟨_, V, hJ2⟩) (by simp [pfA]) V ?_ ?_ ?_
      ·rintro l20 k20 x20 M0 hx hJ
       obtain ⟨M3, rfl, hJ3⟩ := hJ
       simp only [List.getElem?_map, Option.map_eq_some_iff] at hx
       obtain ⟨⟨xk, xn, xc, xl⟩, hxw, rfl⟩ := hx
       have hkw := get_lt hxw
       have hy2 := hy _ _ _ (hE1 k20 _ (by rw [List.getElem?_map, hxw]; rfl)) hJ3
       simp only [Pf.cells, Pf.cellss] at hy2
       refine c_asg (Zc (Za 14 V V V (Zy (cs' := [_, _, _, _]) V tz_30 V V ?_))); intro b14
       refine Zq V V (Zm (cs' := [_, _, _, _]) (i := 0) V ts_30 V V V V V (Ud V) V (Vq (Yv ?_)))
       intro p20 hp20
       show ACode _ _ _ _ _ _ _
       refine Yf (Zw (Zf (Zc (Za 99 V V V (Zp V ta_132 V V (Za 100 V V V (Zl (i := 2) V Xf V V V (Za 101 V V V (Zg V tf_77_0 V (Za 102 V V V (Zl (i := 3) V Xd V V V (Za 103 V V V (Zx (cs' := [_, _, _, _]) (i := 1) V Wu V V V V (Za 104 V V V (Yb (xs := [.tmp 103]) el_28 V V V V V V (Ud V) (Za 105 V V V (Yj (ns := [0, 1, 2, 3]) (xs := [.const (.int .i64 2), .tmp 100, .tmp 102, .tmp 104]) V tz_30 V tfl_30 V V V V ?_)))))))))))))))))
       refine Za 106 V V V (op_yield (xs := [.tmp 105])  [.objp _ _, .loc b14 _, .loc b12 _, .loc b11 _] V V V V hy2 (Vy _) (fun v106 M106 h106 => ?_))
       obtain ⟨c106, rfl, hT, hF⟩ := yres h106
       refine Za 107 V V V (We V V ?_); intro c107 h107
       try replace h107 := nott h107 h106
       refine Vq (Zb ?_)
       rcases Zh h107 with ⟨rfl, g107⟩ | ⟨rfl, g107⟩
       ·refine Zn V (Zt (Yn (go_end (⟨_, ?_, _, V, _, V, hT (by simpa using g107)⟩))))
        exact by3
       ·refine Zr V (Ya (⟨_, ?_, _, V, V, _, _, V, by omega, hF (by simpa using g107)⟩))
        exact by3
      ·rintro M9 hJ
       refine Yn (Yn ?_)
       obtain ⟨M3, rfl, hJ3⟩ := hJ
       rw [List.length_map] at hJ3
       refine Zb (Zc (Za 108 V V V (Yt V V V (Uh _ (by omega)) ?_)))
       refine Za 80 V V V (Zd V V (Vq (Yv ?_)))
       first
       | exact ⟨(n + 1, k2 + (W (.mk ys ⟨pk, ps, pn, pl⟩)).length, M3), ⟨by show n + 1 ≤ ysu.length; omega, hJ3, hE3, hE2⟩, by show ysu.length - (n + 1) < ysu.length - n; omega, by4, (Vu _ (Vr _))⟩
       | exact ⟨(n + 1, k2, Mb), ⟨by show n + 1 ≤ ysu.length; omega, hJ2, hk2, HZ (by simpa using g88)⟩, by show ysu.length - (n + 1) < ysu.length - n; omega, by4, (Vu _ (Vr _))⟩
      ·rintro c9 M9 hJ
       obtain ⟨rfl, M3, kk, rfl, hkk, hJx⟩ := hJ
       refine Ya ?_
       exact out_none' V (Vu _ (Vu _ (Vr _))) (.inr ⟨kk, hkk, hJx⟩)
     ·refine Zr V (Yy (Xa (Yz (Zb (Zc (Za 108 V V V (Yt V V V (Uh _ (by omega)) ?_)))))))
      refine Za 80 V V V (Zd V V (Vq (Yv ?_)))
      first
      | exact ⟨(n + 1, k2 + (W (.mk ys ⟨pk, ps, pn, pl⟩)).length, M3), ⟨by show n + 1 ≤ ysu.length; omega, hJ3, hE3, hE2⟩, by show ysu.length - (n + 1) < ysu.length - n; omega, by4, (Vu _ (Vr _))⟩
      | exact ⟨(n + 1, k2, Mb), ⟨by show n + 1 ≤ ysu.length; omega, hJ2, hk2, HZ (by simpa using g88)⟩, by show ysu.length - (n + 1) < ysu.length - n; omega, by4, (Vu _ (Vr _))⟩
  ·refine Zr V (Zt (Zb (Zf (Zw (Zf ?_)))))
   obtain ⟨⟨gc, ⟨gtk, gts, gtn, gtl⟩⟩, hxg⟩ := Yu (l := gs) (i := i) by7
   have hcg := Pr.cellss_get hxg
   have hmg := Ui hxg
   rw [Xn hxg, givsF] at hD
   have HSg := HS (Pr.mk gc ⟨gtk, gts, gtn, gtl⟩)
   simp only [Ty.cells] at HSg
   have HY : Pr.mk gc ⟨gtk, gts, gtn, gtl⟩ = Pr.mk pc ⟨pk, ps, pn, pl⟩ → YCall Tryz.prog lp [.agg (Pf.mk 1 i kE []).cells] M (fun v M' => (v = .val (.bool true) ∧ J (k + 1) M') ∨ (v = .val (.bool false) ∧ Jx (k + 1) M')) ∧ T.drop (k + 1) = givsF (.mk pc ⟨pk, ps, pn, pl⟩) (gs.drop (i + 1)) (i + 1) ++ ((if c46 = true then R.map (fun r => Pf.mk 3 ii kE r) else []) ++ clsF W (.mk pc ⟨pk, ps, pn, pl⟩) cl) ∧ k + 1 ≤ T.length := fun e => by
    rw [if_pos e] at hD
    obtain ⟨q1, q2, q3⟩ := drop_cons hD
    exact ⟨hy k _ M q1 hJ, q2, q3⟩
   have HZ : ¬ Pr.mk gc ⟨gtk, gts, gtn, gtl⟩ = Pr.mk pc ⟨pk, ps, pn, pl⟩ → _ := fun e => by
    rw [if_neg e, List.nil_append] at hD
    exact hD
   simp only [Pf.cells, Pf.cellss] at HY
   refine Zc (Za 24 V V V (Zd V V (Za 25 V V V (Yd V te_22 V (.seq _ _) V V (hcg) (Za 26 V V V (Yc (cs' := [_, _, _, _, _]) V ta_27 V V V (Za 6 V V V (Zy (cs' := [_, _, _, _, _]) V tz_27 V V ?_)))))))); intro b6
   refine Za 5 V V V (Ze V V (Zq V V (Zm (cs' := [_, _, _, _, _]) (i := 0) V ts_27 V V V V V (Ud V) V (Vq (Zb (Zf (Zc (Za 27 V V V (Zx (cs' := [_, _, _, _, _]) (i := 0) V ta_27 V V V V (Za 28 V V V (Yc (cs' := [_, _, _, _, _]) V ta_27 V V V (Za 29 V V V (Yh (xs := [.tmp 27, .tmp 28]) V V (HSg) by1 ?_))))))))))))); intro c29 h29
   refine Za 30 V V V (Zd V V ?_)
   rcases Zh h29 with ⟨rfl, g29⟩ | ⟨rfl, g29⟩
   ·skip
    refine Zi 31 V V V V V (Zi 32 V V V V V (Zi 33 V V V V V (Zi 34 V V V V V (Zi 35 V V V V V (Za 36 V V V (Zo V V V (Vq (Zb (Zn V (Zt (Yn (Zb (Zc (Za 37 V V V (Yt V V V (Uh _ (by omega)) ?_)))))))))))))))
    refine Za 22 V V V (Zd V V (Vq (Yv ?_)))
    first
    | exact ⟨(i + 1, k + 1, M34), ⟨by show i + 1 ≤ gs.length; omega, hT (by simpa using g35), (HY g29).2.2, (HY g29).2.1⟩, by show gs.length - (i + 1) < gs.length - i; omega, by4, (Vu _ (Vr _))⟩
    | exact ⟨(i + 1, k, M), ⟨by show i + 1 ≤ gs.length; omega, hJ, hk, HZ g29⟩, by show gs.length - (i + 1) < gs.length - i; omega, by4, (Vu _ (Vr _))⟩
   ·skip
    refine Zk 31 V V V V V (Zp V ta_132 V V (Zk 32 V V V V V (Zd V V (Zk 33 V V V V V (Yj (ns := [0, 1]) (xs := [.const (.int .i64 1), .tmp 32]) V tz_30 V tfl_30 V V V V ?_)))))
    refine Zk 34 V V V V V (op_yield (xs := [.tmp 33])  [.loc b6 _] V V V V (HY g29).1 (Vz (Le.agg (Vz (Vx _) (Vz (Vx _) (Vz (Vx _) (Vz (Le.nil 4) (Vy _)))))) (Vy _)) (fun v34 M34 h34 => ?_))
    obtain ⟨c34, rfl, hT, hF⟩ := yres h34
    refine Zk 35 V V V V V (We V V ?_); intro c35 h35
    try replace h35 := nott h35 h34
    refine Za 36 V V V (Zo V V V (Vq (Zb ?_)))
    rcases Zh h35 with ⟨rfl, g35⟩ | ⟨rfl, g35⟩
    ·refine Zn V (Zt (Yn (Zb (Zc (Za 37 V V V (Yt V V V (Uh _ (by omega)) ?_))))))
     refine Za 22 V V V (Zd V V (Vq (Yv ?_)))
     first
     | exact ⟨(i + 1, k + 1, M34), ⟨by show i + 1 ≤ gs.length; omega, hT (by simpa using g35), (HY g29).2.2, (HY g29).2.1⟩, by show gs.length - (i + 1) < gs.length - i; omega, by4, (Vu _ (Vr _))⟩
     | exact ⟨(i + 1, k, M), ⟨by show i + 1 ≤ gs.length; omega, hJ, hk, HZ g29⟩, by show gs.length - (i + 1) < gs.length - i; omega, by4, (Vu _ (Vr _))⟩
    ·refine Zr V (Ya ?_)
     exact out_none' V (Vu _ (Vr _)) (.inr ⟨_, (HY g29).2.2, hF (by simpa using g35)⟩)
 ·omega
theorem Pr.cellss_take (l : List Pr) (n : Nat) : (Pr.cellss l).take n = Pr.cellss (l.take n) := by simp [Pr.cellss]
theorem rowsIt (v : En) (gs : List Pr) (dv : Int) (W : Pr → List Pf) (l : List Pr) (hl : l.length ≤ 100000)
    (HW : ∀ q ∈ l, Iter Tryz.prog 76 [] [.cptr [.val (.int .i64 dv)], .cptr [fAV v gs], .cptr q.cells] ((W q).map pfA)) :
    ∀ n ≤ l.length, Iter Tryz.prog 99 [] [.cptr [.seq 5 (Pr.cellss (l.take n))], .cptr [fAV v gs], .cptr [.val (.int .i64 dv)]] ((rowsF W (l.take n)).map rowA) := by
 intro n
 induction n with
 | zero => intro _; exact rowsIt_nil _ _
 | succ n ih =>
  intro hn
  obtain ⟨q, hq⟩ : ∃ q, l[n]? = some q := ⟨_, List.getElem?_eq_getElem hn⟩
  have ht : l.take (n + 1) = l.take n ++ [q] := by rw [List.take_add_one, hq]; rfl
  have hR : ∀ r ∈ rowsF W (l.take n), r.length ≤ 100000000 := fun r hr => by
   have := rowsF_len (l.take n) [[]] 0 (by simp) r hr
   rw [List.length_take] at this
   omega
  have := rowsIt_snoc v gs dv (l.take (n + 1)) n q (by rw [List.length_take]; omega) (by rw [List.getElem?_take]; simp [hq]) (rowsF W (l.take n)) (W q) hR (by
   rw [Pr.cellss_take, List.take_take, show min n (n + 1) = n by omega]
   exact ih (by omega)) (HW q (Ui hq))
  rw [show rowsF W (l.take (n + 1)) = (rowsF W (l.take n)).flatMap fun r => (W q).map fun x => r ++ [x] by rw [ht, rowsF_snoc]]
  exact this
theorem proofsIt (v : En) (hv : EnC v) (gs : List Pr) (hgb : gs.length ≤ 100000) : ∀ (d : Nat), d ≤ 1000000 → ∀ p : Pr, p.t.size ≤ 1000000 → Iter Tryz.prog 76 [] [.cptr [.val (.int .i64 d)], .cptr [fAV v gs], .cptr p.cells] ((proofsF v gs d p).map pfA)
 | 0, _, p, _ => proofsIt_none v gs p _ (by omega)
 | d + 1, hd, p, hp => by
  have IH := proofsIt v hv gs hgb d (by omega)
  have := proofsIt_some v hv.g gs hgb p (d + 1 : Nat) (by omega) (by omega) hp (proofsF v gs d) (by
   have := rowsIt v gs d (proofsF v gs d) (needsR v (instI v p.c p.t.name) p.t) (needsR_len hv.g.b _ _) (fun q hq => IH q (by have := hv.needs_size hq; omega)) _ (Nat.le_refl _)
   rw [List.take_length] at this
   rw [show ((d + 1 : Nat) : Int) - 1 = d by omega]
   exact this) (fun c _ => by
   rw [show ((d + 1 : Nat) : Int) - 1 = d by omega]
   exact IH (.mk c.s p.t) hp)
  exact this
def AllL (p : Nat → Prop) : List Nat → Prop
 | [] => True
 | i :: is => p i ∧ AllL p is
theorem AllL.get {p : Nat → Prop} : ∀ {is : List Nat}, AllL p is → ∀ i ∈ is, p i
 | [], _, i, h => by simp at h
 | j :: is, h, i, hi => by
  rcases List.mem_cons.1 hi with rfl | hi
  ·exact h.1
  ·exact AllL.get h.2 i hi
def ADraw (ro : Option Nat) (P : Program) (n : Nat) (l : List Oper) (QQ : Exit → Sl → Mem → Prop) (fuel : Nat) (lis : List Bool) (al : Sl) (M : Mem) : Prop :=
 ∀ (B : Nat) (F0 : EH) (Mf : Mem) (w0 : World) (ds : List Deferred) (F : EH) (a : Act) (w : World), Ext F0 F → Inv B F (M ++ Mf) w → Slots n F al a.tmps → a.defers = ds → Below B w0 w →
  wpAnyIn (RF ro) 0 P .any l.toArray (fun e a' w' => PostD n B F0 Mf w0 ds (QQ e) a' w') fuel lis.toArray a w
section
variable {ro : Option Nat} {P : Program} {n : Nat} {l : List Oper} {QQ : Exit → Sl → Mem → Prop} {fuel : Nat} {lis : List Bool} {al : Sl} {M : Mem}
theorem ADraw.done (hr : Region.ready .any l.toArray lis.toArray = []) (h : QQ .normal al M) : ADraw ro P n l QQ fuel lis al M := by
 intro B F0 Mf w0 ds F a w hE hi hs hd hb
 have hq : PostD n B F0 Mf w0 ds (QQ .normal) a w := ⟨[], F, al, M, h, hE, hi, hs, hd, hb⟩
 cases fuel with
 | zero => exact ⟨hr, hq⟩
 | succ k => exact ⟨fun _ => hq, fun i hi => by rw [hr] at hi; simp at hi⟩
theorem ADraw.step (is : List Nat) (hr : Region.ready .any l.toArray lis.toArray = is) (hne : is.isEmpty = false)
    (h : AllL (fun i => ∃ o, l[i]? = some o ∧ o.guard = none ∧ (o.dst.all fun d => Nat.blt d n) = true ∧ OpT P o al M (fun v M' => ADraw ro P n l QQ fuel (lis.set i true) (al.put o.dst v) M')) is) : ADraw ro P n l QQ (fuel + 1) lis al M := by
 intro B F0 Mf w0 ds F a w hE hi hs hd hb
 refine ⟨fun e => ?_, fun i hmi => ?_⟩
 ·rw [hr] at e; subst e; simp at hne
 ·rw [hr] at hmi
  obtain ⟨o, ho, hg, hin, hop⟩ := h.get i hmi
  unfold wpOpIn
  simp only [List.getElem?_toArray, ho]
  rw [if_pos (by simp [Region.wanted, hg])]
  refine wp_exits (Oper.wpIn_mono ?_ (hop n B F Mf a w hi hs ro))
  rintro a' w' ⟨u, v, M', F', rfl, hK, hr', hE', hi', hb'⟩
  have hin' : o.dst.all (· < n) = true := by
   cases hdst : o.dst with
   | none => rfl
   | some d => rw [hdst] at hin; simpa [Nat.blt_eq] using hin
  have := hK B F0 Mf w0 ds F' (a.put o.dst u) w' (hE.trans hE') hi' (Slots.put (hs.mono hE') hin' hr') (by rw [← hd]; cases o.dst <;> rfl) (hb.trans hb')
  rwa [show (lis.set i true).toArray = lis.toArray.setIfInBounds i true by simp] at this
end
theorem c_tree {ro : Option Nat} {P : Program} {n : Nat} {l : List Oper} {QQ : Exit → Sl → Mem → Prop} {al : Sl} {M : Mem} {id : Nat} (hmix : P.follows .mixedOrders = true) (h : ADraw ro P n l QQ l.length (List.replicate l.length false) al M) : ACode ro P n (.region id l.toArray true) QQ al M := by
 intro B F Mf a w hi hs
 refine wpIn_region_any hmix ?_
 have := h B F Mf w a.defers F a _ (Ext.refl F) hi.drew hs rfl (Below.refl B w).drew
 rwa [show (List.replicate l.length false).toArray = Array.replicate l.toArray.size false by simp, show l.length = l.toArray.size by simp] at this
theorem ACode.freezer {ro : Option Nat} {n : Nat} {Q : Exit → Sl → Mem → Prop} {c : Code} {al : Sl} {M : Mem} {P : Program} {i m : Nat} {e : TypeId} {u : Value} {es : List (List AV)} (t : Nat) (hm : M[i]? = some (.row e m u es)) (ht : al.lookup t = some (.val u))
    (h : ACode ro P n c Q ((t, .seq m es) :: al) (M.eraseIdx i)) : ACode ro P n c Q al M := by
 intro B F Mf a w hi hsl
 have hi2 := hi.perm ((perm_at hm).append_right Mf)
 rw [List.cons_append] at hi2
 obtain ⟨zs, hown, hslack, hrx, hox, hwx⟩ := hi2.ok _ (List.mem_cons_self)
 have hfar := hi2.far
 rw [List.pairwise_cons] at hfar
 have hext : Ext F (F.grow u.ownBlock zs) := by
  intro b j x h
  unfold EH.grow
  split
  ·rename_i hh
   rw [hslack b j hh.1.symm] at h; simp at h
  ·exact h
 have hinv : Inv B (F.grow u.ownBlock zs) (M.eraseIdx i ++ Mf) w := by
  refine ⟨hi.base, fun b j x h => ?_, fun r hr' => ?_, hfar.2⟩
  ·unfold EH.grow at h
   split at h
   ·rename_i hh
    obtain ⟨hb, hj⟩ := hh
    rcases hown.2 with ⟨rfl, _⟩ | ⟨g, cap, cur, rfl, _⟩
    ·simp [Value.ownBlock] at hb
    ·simp [Value.ownBlock] at hb
     subst hb
     rw [hown.cellAt j (by rw [← hown.1]; exact hj)]; exact h
   ·exact hi.fix b j x h
  ·refine (hi2.ok r (List.mem_cons_of_mem _ hr')).stay hext (fun b' hb' => ⟨V, fun j => ?_⟩)
   unfold EH.grow
   rw [if_neg]
   rintro ⟨e, _⟩
   rcases hfar.1 r hr' with k | k
   ·simp [Res.blk] at k
    rw [k] at e; simp at e
   ·exact k (by rw [hb']; exact e.symm)
 have hu : Rel (F.grow u.ownBlock zs) (.seq m es) u := by
  rcases hown.2 with ⟨rfl, h0⟩ | ⟨g, cap, cur, rfl, _, _, hnc, hcm, _⟩
  ·have : es = [] := List.eq_nil_of_length_eq_zero h0
   subst this
   exact .seq0 m none 0 (fun _ => V)
  ·refine .seq (vs := zs) g 0 cap hwx (by omega) (fun j x hx => ?_) (hrx.mono hext) hox (by omega)
   have hj := get_lt hx
   unfold EH.grow
   rw [if_pos ⟨by rw [Value.ownBlock], by omega⟩, Nat.zero_add]
   exact hx
 have := h B (F.grow u.ownBlock zs) Mf a w hinv ⟨hsl.1, fun t' v' e => ?_⟩
 ·exact Code.wpIn_mono (fun e a w hp => PostD.next (Ds := []) hext (Below.refl _ _) hp) this
 ·by_cases q : t' = t
  ·subst q
   simp only [List.lookup_cons, beq_self_eq_true, Option.some.injEq] at e
   subst e
   obtain ⟨h4, h5⟩ := hsl.2 t' _ ht
   refine ⟨h4, ?_⟩
   generalize a.tmps.getD t' undef = y at h5
   cases h5
   exact hu
  ·rw [List.lookup_cons, show (t' == t) = false by simpa using q] at e
   obtain ⟨h4, h5⟩ := hsl.2 t' v' e
   exact ⟨h4, h5.mono hext⟩
theorem c_frzr {ro : Option Nat} {P : Program} {n : Nat} {ks : List Kont} {Q : Exit → Sl → Mem → Prop} {c : Code} {al : Sl} {M : Mem} {i m : Nat} {e : TypeId} {u : Value} {es : List (List AV)} (t : Nat) (hm : M[i]? = some (.row e m u es)) (ht : al.lookup t = some (.val u)) (h : ACode ro P n c (after ro P n ks Q) ((t, .seq m es) :: al) (M.eraseIdx i)) : ACode ro P n c (after ro P n ks Q) al M :=
 ACode.freezer t hm ht h
section
variable {ro : Option Nat} {P : Program} {n : Nat} {l : List Oper} {QQ : Exit → Sl → Mem → Prop} {fuel fuel' : Nat} {lis lis' : List Bool} {al al' : Sl} {M M' : Mem}
theorem ADraw.le (hs : SLe al al') (hm : MLe M M') (h : ADraw ro P n l QQ fuel lis al' M') : ADraw ro P n l QQ fuel lis al M :=
 fun B F0 Mf w0 ds F a w hE hi hsl => h B F0 Mf w0 ds F a w hE (hi.le hm) (hsl.le hs)
theorem ADraw.via (new : Sl) (fuel' : Nat) (lis' : List Bool) (h : (∀ al', SLe al' (new ++ al) → ADraw ro P n l QQ fuel' lis' al' M) → ADraw ro P n l QQ fuel lis al M) (k : ADraw ro P n l QQ fuel' lis' (new ++ al) M) : ADraw ro P n l QQ fuel lis al M :=
 h fun _ hs => ADraw.le hs (Vr _) k
end
theorem c_treef {ro : Option Nat} {P : Program} {n : Nat} {l : List Oper} {QQ : Exit → Sl → Mem → Prop} {al : Sl} {M : Mem} {id : Nat} (fuel : Nat) (lis : List Bool) (hmix : P.follows .mixedOrders = true) (hf : l.length = fuel) (hl : List.replicate l.length false = lis) (h : ADraw ro P n l QQ fuel lis al M) : ACode ro P n (.region id l.toArray true) QQ al M := by
 subst hf hl
 exact c_tree hmix h
section
variable {P : Program} {o : Oper} {al : Sl} {M : Mem} {K : AV → Mem → Prop}
theorem op_append_rowh {s x : Operand} {t e : TypeId} {z u : Value} {m bytes i : Nat} {v : AV} {es es' : List (List AV)} (E : ElT P t e z m bytes) (ho : o.op = .call { callee := .builtin .append, args := #[s, x], argTypes := #[t, t] }) (hs : al.ev s = some (.val u)) (hm : M[i]? = some (.row e m u es)) (hx : al.ev x = some v) (hv : IsSeq v m es') (hn : es.length + es'.length ≤ 100000000000) (h0 : 0 < es.length + es'.length)
    (q : ∀ g cap, K (.val (rowv g (es.length + es'.length) cap)) (M.set i (.row e m (rowv g (es.length + es'.length) cap) (es ++ es')))) : OpT P o al M K := by
 intro n B F Mf a w hi hsl ro
 have hil : i < M.length := get_lt hm
 have hu := Xz hsl hs
 have hi2 := hi.perm ((perm_at hm).append_right Mf)
 rw [List.cons_append] at hi2
 obtain ⟨u', w', hrun, hi', hb⟩ := row_core (ty := o.type) E hi2 (hv.rel (hsl.ev hx)) hn
 have hform : ∃ g cap, u' = rowv g (es.length + es'.length) cap := by
  obtain ⟨xs, hown, _⟩ := hi'.ok _ (List.mem_cons_self)
  rw [List.length_append] at hown
  rcases hown.2 with ⟨rfl, h0⟩ | ⟨g, cap, cur, rfl, _⟩
  ·omega
  ·exact ⟨g, cap, V⟩
 obtain ⟨g, cap, rfl⟩ := hform
 refine wpR_value (w' := w') ?_ ⟨_, _, _, F, V, q g cap, .val _, Ext.refl F, ?_, hb⟩
 ·simp [execOp, ho, resolve, invoke, builtin, hu, hrun]
 ·refine hi'.perm ?_
  rw [← List.cons_append]
  exact ((perm_set _ hil).append_right Mf).symm
end
theorem proofsItZ (v : En) (hv : EnC v) (gs : List Pr) (hgb : gs.length ≤ 100000) (p : Pr) (hp : p.t.size ≤ 1000000) (dv : Int) (hd : dv ≤ 1000000) : Iter Tryz.prog 76 [] [.cptr [.val (.int .i64 dv)], .cptr [fAV v gs], .cptr p.cells] ((proofsF v gs dv.toNat p).map pfA) := by
 by_cases h : dv < 1
 ·rw [show dv.toNat = 0 by omega]
  exact proofsIt_none v gs p dv h
 ·have := proofsIt v hv gs hgb dv.toNat (by omega) p hp
  rw [show ((dv.toNat : Nat) : Int) = dv by omega] at this
  exact this
noncomputable def allF (v : En) (gs : List Pr) (p : Pr) (dv mv : Int) : List Pf := (proofsF v gs dv.toNat p).take (min mv 1000).toNat
theorem set_snoc {α : Type} (E : List α) (z x : α) : (E ++ [z]).set E.length x = E ++ [x] := by
 rw [List.set_append_right _ _ (Nat.le_refl _), Nat.sub_self]
 rfl
theorem cellss_takeS {T : List Pf} {k : Nat} {x : Pf} (h : T[k]? = some x) : Pf.cellss (T.take (k + 1)) = Pf.cellss (T.take k) ++ [x.cells] := by
 rw [List.take_add_one, h]
 exact Pf.cellss_app' ..
abbrev z30 : Value := .agg #[.int .i64 0, .int .i64 0, .string { data := #[] }, .slice none 0 0]
theorem entAll_c (v : En) (hv : EnC v) (gs : List Pr) (hgb : gs.length ≤ 100000) (p : Pr) (hp : p.t.size ≤ 1000000) (dv mv : Int) (hd : dv ≤ 1000000) : PCall Tryz.prog 20 [.agg v.cells, .seq 5 (Pr.cellss gs), .agg p.cells, .val (.int .i64 dv), .val (.int .i64 mv)] (.seq 4 (Pf.cellss (allF v gs p dv mv))) := by
 have HI := proofsItZ v hv gs hgb p hp dv hd
 have HP := proofs_c v gs p dv
 unfold allF
 generalize proofsF v gs dv.toNat p = T at *
 clear hv hp
 obtain ⟨pc, ⟨pk, ps, pn, pl⟩⟩ := p
 obtain ⟨da, cl, ins⟩ := v
 simp only [fAV, En.cells, Pr.cells, Ty.cells, List.cons_append, List.nil_append] at *
 refine Zu Tryz.func20 V (by kernel_rfl) V (Ud V) ?_
 refine Yf (Zf (Zc (Za 5 V V V (Xb (cs' := [_, _, _]) V V V V (Za 7 V V V (Xb (cs' := [_, _, _, _, _]) V V V V (Za 9 V V V (op_boxe (cs' := [_]) V V V V ?_)))))))); intro b9
 refine Za 10 V V V (Ze V V (Vq (Zb (Zf (Zc (Za 11 V V V (Zy (cs' := [_]) V tz_28 V V ?_))))))); intro b11
 refine Vq (Zb (Zf (Zc (Za 14 V V V (Zl (i := 1) V Xf V V V (Za 15 V V V (op_min V V V (Zq V V (Zm (cs' := [_]) (i := 1) V Wh V V V V V (Ud V) V (Vq (Zb (Zf (Zf (Zc (Za 16 V V V (Zl (i := 1) V Xf V V V (Za 17 V V V (Yq V V V ?_)))))))))))))))))); intro c17 h17
 refine Vq (Zb ?_)
 rcases Zh h17 with ⟨rfl, g17⟩ | ⟨rfl, g17⟩
 ·refine Zn V (Zt (Zb (Zf (Zc (Za 18 V V V (Yc (cs' := [_, _, _]) V Wf V V V (Za 19 V V V (Zd V V (Za 20 V V V (Yj (ns := [0, 1]) (xs := [.tmp 18, .tmp 19]) V tz_85 V tfl_85 V V V V (Za 21 V V V (Xb (cs' := [_, _, _, _]) V V V V (Za 12 V V V (Ze V V (Vq (Zb (Zf (Zf (c_mem (MImp.rowNil 30 4 _) (Zc (Za 22 V V V (Zd V V (Za 23 V V V (Yc (cs' := [_, _, _, _, _]) V ta_27 V V V (Za 24 V V V (Zd V V ?_))))))))))))))))))))))))))
  refine Za 25 V V V (Yk (xs := [.tmp 22, .tmp 23, .tmp 24]) V V (HP) by1 ?_)
  refine Vq (Zb (Zw ?_))
  refine c_rangeU (xs := T.map pfA) (ps := [26]) V (HI) (fun k M => k < (min mv 1000).toNat ∧ ∃ u, M = [.row 30 4 u (Pf.cellss (T.take k)), .loc b11 [.val u], .loc b9 [.val (.int .i64 (min mv 1000))]]) (fun c M => c = .exit 0 ∧ ∃ u, M = [.row 30 4 u (Pf.cellss (T.take (min mv 1000).toNat)), .loc b11 [.val u], .loc b9 [.val (.int .i64 (min mv 1000))]]) (⟨by omega, _, V⟩) (by simp [pfA]) V ?_ ?_ ?_
  ·rintro l7 k7 x7 M0 hx hJ
   obtain ⟨hk, u, rfl⟩ := hJ
   simp only [List.getElem?_map, Option.map_eq_some_iff] at hx
   obtain ⟨⟨xk, xn, xc, xl⟩, hxw, rfl⟩ := hx
   have hkw := get_lt hxw
   simp only [pfA, Pf.cells]
   refine c_asg (Zc (Za 13 V V V (Zy (cs' := [_, _, _, _]) V tz_30 V V ?_))); intro b13
   refine Zq V V (Zm (cs' := [_, _, _, _]) (i := 0) V ts_30 V V V V V (Ud V) V (Vq (Yv ?_)))
   intro p7 hp7
   show ACode _ _ _ _ _ _ _
   refine Yf (Zw (Zf ?_))
   obtain ⟨E, hE, hEl⟩ : ∃ E, Pf.cellss (T.take k7) = E ∧ E.length = k7 := ⟨_, rfl, by rw [Pf.cellss_len, List.length_take]; omega⟩
   rw [hE]
   subst hEl
   apply c_joink [27, 28, 29, 30, 31, 32] (σ := Nat × Nat) (fun _ => []) (fun zz => [.objp l7 p7, .loc b13 [.val (.int .i64 xk), .val (.int .i64 xn), .val (.string xc), .seq 4 (Pf.cellss xl)], .row 30 4 (rowv zz.1 (E.length + 1) zz.2) (E ++ [[.val (.int .i64 xk), .val (.int .i64 xn), .val (.string xc), .seq 4 (Pf.cellss xl)]]), .loc b11 [.val (rowv zz.1 (E.length + 1) zz.2)], .loc b9 [.val (.int .i64 (min mv 1000))]]) (fun _ => True)
   ·repeat' (first | exact Ug | apply Ue rfl | apply Uf rfl)
   ·skip
    refine c_treef 8 [false, false, false, false, false, false, false, false] Wk V V ?_
    refine ADraw.via [(30, .seq 4 [[AV.val (Value.int IntKind.i64 0), AV.val (Value.int IntKind.i64 0), AV.val (Value.string kE), AV.val (Value.slice none 0 0)]]), (29, .val (.int .i64 E.length)), (28, .agg [.val (.int .i64 xk), .val (.int .i64 xn), .val (.string xc), .seq 4 (Pf.cellss xl)]), (27, .val u)] 4 [true, true, true, true, false, false, false, false] (fun H => ?_) ?_
    ·skip
     refine ADraw.step [0, 1, 3] (by kernel_rfl) V ⟨?_, ?_, ?_, trivial⟩
     ·refine ⟨_, V, V, V, Zl (i := 3) V ta_28 V V V ?_⟩
      refine ADraw.step [1, 2, 3] (by kernel_rfl) V ⟨?_, ?_, ?_, trivial⟩
      ·refine ⟨_, V, V, V, Zx (cs' := [_, _, _, _]) (i := 1) V Wu V V V V ?_⟩
       refine ADraw.step [2, 3] (by kernel_rfl) V ⟨?_, ?_, trivial⟩
       ·refine ⟨_, V, V, V, op_len_row (i := 2) V tu_28 V V (fun _ => ?_)⟩
        refine ADraw.step [3] (by kernel_rfl) V ⟨?_, trivial⟩
        ·refine ⟨_, V, V, V, Yb (xs := [.const z30]) el_28 V V V V V V (Ud V) ?_⟩
         exact H _ by4
       ·refine ⟨_, V, V, V, Yb (xs := [.const z30]) el_28 V V V V V V (Ud V) ?_⟩
        refine ADraw.step [2] (by kernel_rfl) V ⟨?_, trivial⟩
        ·refine ⟨_, V, V, V, op_len_row (i := 2) V tu_28 V V (fun _ => ?_)⟩
         exact H _ by4
      ·refine ⟨_, V, V, V, op_len_row (i := 2) V tu_28 V V (fun _ => ?_)⟩
       refine ADraw.step [1, 3] (by kernel_rfl) V ⟨?_, ?_, trivial⟩
       ·refine ⟨_, V, V, V, Zx (cs' := [_, _, _, _]) (i := 1) V Wu V V V V ?_⟩
        refine ADraw.step [3] (by kernel_rfl) V ⟨?_, trivial⟩
        ·refine ⟨_, V, V, V, Yb (xs := [.const z30]) el_28 V V V V V V (Ud V) ?_⟩
         exact H _ by4
       ·refine ⟨_, V, V, V, Yb (xs := [.const z30]) el_28 V V V V V V (Ud V) ?_⟩
        refine ADraw.step [1] (by kernel_rfl) V ⟨?_, trivial⟩
        ·refine ⟨_, V, V, V, Zx (cs' := [_, _, _, _]) (i := 1) V Wu V V V V ?_⟩
         exact H _ by4
      ·refine ⟨_, V, V, V, Yb (xs := [.const z30]) el_28 V V V V V V (Ud V) ?_⟩
       refine ADraw.step [1, 2] (by kernel_rfl) V ⟨?_, ?_, trivial⟩
       ·refine ⟨_, V, V, V, Zx (cs' := [_, _, _, _]) (i := 1) V Wu V V V V ?_⟩
        refine ADraw.step [2] (by kernel_rfl) V ⟨?_, trivial⟩
        ·refine ⟨_, V, V, V, op_len_row (i := 2) V tu_28 V V (fun _ => ?_)⟩
         exact H _ by4
       ·refine ⟨_, V, V, V, op_len_row (i := 2) V tu_28 V V (fun _ => ?_)⟩
        refine ADraw.step [1] (by kernel_rfl) V ⟨?_, trivial⟩
        ·refine ⟨_, V, V, V, Zx (cs' := [_, _, _, _]) (i := 1) V Wu V V V V ?_⟩
         exact H _ by4
     ·refine ⟨_, V, V, V, Zx (cs' := [_, _, _, _]) (i := 1) V Wu V V V V ?_⟩
      refine ADraw.step [0, 3] (by kernel_rfl) V ⟨?_, ?_, trivial⟩
      ·refine ⟨_, V, V, V, Zl (i := 3) V ta_28 V V V ?_⟩
       refine ADraw.step [2, 3] (by kernel_rfl) V ⟨?_, ?_, trivial⟩
       ·refine ⟨_, V, V, V, op_len_row (i := 2) V tu_28 V V (fun _ => ?_)⟩
        refine ADraw.step [3] (by kernel_rfl) V ⟨?_, trivial⟩
        ·refine ⟨_, V, V, V, Yb (xs := [.const z30]) el_28 V V V V V V (Ud V) ?_⟩
         exact H _ by4
       ·refine ⟨_, V, V, V, Yb (xs := [.const z30]) el_28 V V V V V V (Ud V) ?_⟩
        refine ADraw.step [2] (by kernel_rfl) V ⟨?_, trivial⟩
        ·refine ⟨_, V, V, V, op_len_row (i := 2) V tu_28 V V (fun _ => ?_)⟩
         exact H _ by4
      ·refine ⟨_, V, V, V, Yb (xs := [.const z30]) el_28 V V V V V V (Ud V) ?_⟩
       refine ADraw.step [0] (by kernel_rfl) V ⟨?_, trivial⟩
       ·refine ⟨_, V, V, V, Zl (i := 3) V ta_28 V V V ?_⟩
        refine ADraw.step [2] (by kernel_rfl) V ⟨?_, trivial⟩
        ·refine ⟨_, V, V, V, op_len_row (i := 2) V tu_28 V V (fun _ => ?_)⟩
         exact H _ by4
     ·refine ⟨_, V, V, V, Yb (xs := [.const z30]) el_28 V V V V V V (Ud V) ?_⟩
      refine ADraw.step [0, 1] (by kernel_rfl) V ⟨?_, ?_, trivial⟩
      ·refine ⟨_, V, V, V, Zl (i := 3) V ta_28 V V V ?_⟩
       refine ADraw.step [1, 2] (by kernel_rfl) V ⟨?_, ?_, trivial⟩
       ·refine ⟨_, V, V, V, Zx (cs' := [_, _, _, _]) (i := 1) V Wu V V V V ?_⟩
        refine ADraw.step [2] (by kernel_rfl) V ⟨?_, trivial⟩
        ·refine ⟨_, V, V, V, op_len_row (i := 2) V tu_28 V V (fun _ => ?_)⟩
         exact H _ by4
       ·refine ⟨_, V, V, V, op_len_row (i := 2) V tu_28 V V (fun _ => ?_)⟩
        refine ADraw.step [1] (by kernel_rfl) V ⟨?_, trivial⟩
        ·refine ⟨_, V, V, V, Zx (cs' := [_, _, _, _]) (i := 1) V Wu V V V V ?_⟩
         exact H _ by4
      ·refine ⟨_, V, V, V, Zx (cs' := [_, _, _, _]) (i := 1) V Wu V V V V ?_⟩
       refine ADraw.step [0] (by kernel_rfl) V ⟨?_, trivial⟩
       ·refine ⟨_, V, V, V, Zl (i := 3) V ta_28 V V V ?_⟩
        refine ADraw.step [2] (by kernel_rfl) V ⟨?_, trivial⟩
        ·refine ⟨_, V, V, V, op_len_row (i := 2) V tu_28 V V (fun _ => ?_)⟩
         exact H _ by4
    refine ADraw.step [4] (by kernel_rfl) V ⟨?_, trivial⟩
    ·refine ⟨_, V, V, V, op_append_rowh (i := 2) el_28 V V V V (.seq _ _) (by simp; omega) (by simp) ?_⟩
     intro g cap
     refine ADraw.step [5, 7] (by kernel_rfl) V ⟨?_, ?_, trivial⟩
     ·refine ⟨_, V, V, V, op_index_row (i := 2) (k := E.length) V te_28 V V V V (by simp) ?_⟩
      refine ADraw.step [6, 7] (by kernel_rfl) V ⟨?_, ?_, trivial⟩
      ·refine ⟨_, V, V, V, op_store_rowp (i := 2) (k := E.length) V ts_30 V V V V V V (by simp) ?_⟩
       refine ADraw.step [7] (by kernel_rfl) V ⟨?_, trivial⟩
       ·refine ⟨_, V, V, V, Zm (cs' := [_]) (i := 3) V ts_28 V V V V V (Ud V) V ?_⟩
        exact ADraw.done (by kernel_rfl) ⟨(g, cap), trivial, by4, by rw [set_snoc]; exact by3⟩
      ·refine ⟨_, V, V, V, Zm (cs' := [_]) (i := 3) V ts_28 V V V V V (Ud V) V ?_⟩
       refine ADraw.step [6] (by kernel_rfl) V ⟨?_, trivial⟩
       ·refine ⟨_, V, V, V, op_store_rowp (i := 2) (k := E.length) V ts_30 V V V V V V (by simp) ?_⟩
        exact ADraw.done (by kernel_rfl) ⟨(g, cap), trivial, by4, by rw [set_snoc]; exact by3⟩
     ·refine ⟨_, V, V, V, Zm (cs' := [_]) (i := 3) V ts_28 V V V V V (Ud V) V ?_⟩
      refine ADraw.step [5] (by kernel_rfl) V ⟨?_, trivial⟩
      ·refine ⟨_, V, V, V, op_index_row (i := 2) (k := E.length) V te_28 V V V V (by simp) ?_⟩
       refine ADraw.step [6] (by kernel_rfl) V ⟨?_, trivial⟩
       ·refine ⟨_, V, V, V, op_store_rowp (i := 2) (k := E.length) V ts_30 V V V V V V (by simp) ?_⟩
        exact ADraw.done (by kernel_rfl) ⟨(g, cap), trivial, by4, by rw [set_snoc]; exact by3⟩
   rintro ⟨g, cap⟩ -
   dsimp only [List.cons_append, List.nil_append]
   have hl1 : E.length + 1 ≤ (min mv 1000).toNat := hk
   have hEn : E ++ [[AV.val (.int .i64 xk), .val (.int .i64 xn), .val (.string xc), .seq 4 (Pf.cellss xl)]] = Pf.cellss (T.take (E.length + 1)) := by
    rw [cellss_takeS hxw, hE, Pf.cells]
   rw [hEn]
   refine Zb (Zf (Zc (Za 33 V V V (Zl (i := 3) V ta_28 V V V (Za 34 V V V (op_len_val V tu_28 V (Za 35 V V V (Zl (i := 4) V Xf V V V (Za 36 V V V (Yw V V V ?_)))))))))); intro c36 h36
   refine Vq (Zb ?_)
   rcases Zh h36 with ⟨rfl, g36⟩ | ⟨rfl, g36⟩
   ·refine Zn V (Zt (Yn (go_end (⟨_, ?_, _, V, by omega, rowv g (E.length + 1) cap, V⟩))))
    exact by3
   ·refine Zr V (Yy (x_past (by simp) ?_))
    refine x_out ?_
    rw [show (min mv 1000).toNat = E.length + 1 by omega]
    refine ⟨_, ?_, _, V, V, rowv g (E.length + 1) cap, V⟩
    exact by3
  ·rintro M9 hJ
   refine Yn ?_
   obtain ⟨hk, u, rfl⟩ := hJ
   rw [List.length_map] at hk
   refine Zb (Zf (Zc (Za 37 V V V (Zl (i := 1) V ta_28 V V V (Za 10 V V V (Ze V V (Vq (Zb (c_frzr 10 (i := 0) V V (Ya ?_))))))))))
   first
   | exact Yg rfl rfl (Vx _) by3 ⟨rfl, rfl⟩
   | rw [show Pf.cellss (T.take (min mv 1000).toNat) = Pf.cellss (T.take (T.map pfA).length) by rw [List.length_map, List.take_length, List.take_of_length_le (by omega)]]; exact Yg rfl rfl (Vx _) by3 ⟨rfl, rfl⟩
  ·rintro c9 M9 hJ
   obtain ⟨rfl, u, rfl⟩ := hJ
   refine Yy (Yz (Zb (Zf (Zc (Za 37 V V V (Zl (i := 1) V ta_28 V V V (Za 10 V V V (Ze V V (Vq (Zb (c_frzr 10 (i := 0) V V (Ya ?_))))))))))))
   first
   | exact Yg rfl rfl (Vx _) by3 ⟨rfl, rfl⟩
   | rw [show Pf.cellss (T.take (min mv 1000).toNat) = Pf.cellss (T.take (T.map pfA).length) by rw [List.length_map, List.take_length, List.take_of_length_le (by omega)]]; exact Yg rfl rfl (Vx _) by3 ⟨rfl, rfl⟩
 ·refine Zr V (Zf (Zc (Za 10 V V V (Ze V V (Vq (Zb (Ya ?_)))))))
  rw [show T.take (min mv 1000).toNat = [] by rw [show (min mv 1000).toNat = 0 by omega]; rfl]
  exact Yg V V (Le.nil 4) by3 ⟨V, V⟩
theorem ownLess {u : Value} {m : Nat} {xs ys : List (List AV)} (h : Less xs ys) : Le (.own u m xs) (.own u m ys) := fun F x k => by
 cases k with
 | own _ k => exact .own _ (Le.seq h F _ k)
theorem lessApp : ∀ {a b c d : List (List AV)}, Less a b → Less c d → Less (a ++ c) (b ++ d)
 | _, _, _, _, .nil, k => k
 | _, _, _, _, .cons h e hs, k => .cons h e (lessApp hs k)
theorem leInt {k : IntKind} {a b : Int} (h : a = b) : Le (.val (.int k a)) (.val (.int k b)) := by subst h; exact Vx _
theorem rowA_more {u u' : Value} {R : List (List Pf)} {r : List Pf} {x : Pf} {cs : List AV} (hx : cs = x.cells) : Le (.own u 1 (R.map rowA ++ [[.own u' 4 (Pf.cellss r ++ [cs])]])) (.own u 1 ((R ++ [r ++ [x]]).map rowA)) := by
 rw [List.map_append]
 refine ownLess (lessApp (Less.refl _) (.cons (Vz (Le.own_seq ?_) (Vy _)) V .nil))
 rw [Pf.cellss_app', hx]
theorem rrows_c (v : En) (gs l : List Pr) (hl : l.length ≤ 100000) (dv : Int) (m : Nat) (hm : 1 ≤ m) (hm2 : m ≤ 1000) (W : Pr → List Pf) (hW : ∀ q, (W q).length ≤ m)
    (HA : ∀ q ∈ l, PCall Tryz.prog 21 [.agg v.cells, .seq 5 (Pr.cellss gs), .agg q.cells, .val (.int .i64 dv), .val (.int .i64 m)] (.seq 4 (Pf.cellss (W q)))) :
    PCall Tryz.prog 48 [.agg v.cells, .seq 5 (Pr.cellss gs), .seq 5 (Pr.cellss l), .val (.int .i64 dv), .val (.int .i64 m)] (.seq 1 ((rowsM W m l [[]]).map rowA)) := by
 obtain ⟨Z, hZ⟩ : ∃ Z, rowsM W m l [[]] = Z := ⟨_, rfl⟩
 rw [hZ]
 have hll := Pr.cellss_len l
 obtain ⟨da, cl, ins⟩ := v
 simp only [En.cells] at *
 refine Zu Tryz.func48 V (by kernel_rfl) V (Ud V) ?_
 refine Yf (Zf (Zc (Za 5 V V V (Xb (cs' := [_, _, _]) V V V V (Za 10 V V V (Ze V V (Vq (Zb (Zf (Zc (Za 18 V V V (Yb (xs := [.const (.slice none 0 0)]) el_89 V V V V V V (Ud V) (Za 11 V V V (Ze V V (Vq (Zb (Zf (Zf (Zc (Za 12 V V V (Ze V V (Vq (Zb (Zw ?_))))))))))))))))))))))))
 apply Xp [0, 6, 7, 8, 9, 11, 12, 13, 14, 15, 16, 17, 18, 19, 20, 21, 22, 23, 24, 25, 26, 27, 28, 29, 30, 31, 32, 33, 34, 35, 36, 37, 38, 39, 40, 41, 42, 43, 44, 45, 46, 47, 48, 49, 50, 51, 52, 53, 54, 55, 56, 57, 58, 59, 60, 61, 62, 63, 64, 65, 66, 67, 68] (σ := Nat × List (List Pf)) (fun zz => match zz with | (i, R) => [(11, .seq 1 (R.map rowA)), (12, .val (.int .i64 i))]) (fun zz => match zz with | (i, R) => []) (fun zz => match zz with | (i, R) => i ≤ l.length ∧ R.length ≤ m ∧ (∀ r ∈ R, r.length ≤ i) ∧ rowsM W m (l.drop i) R = Z) (fun zz => match zz with | (i, R) => l.length - i) ((0, [[]]))
 ·repeat' (first | exact Ug | apply Ue rfl | apply Uf rfl)
 ·exact ⟨Nat.zero_le _, by simpa using hm, by simp, hZ⟩
 ·exact Ua V (Le.seq (.cons (Vz (Le.nil 4) (Vy _)) V .nil)) by4
 ·exact by3
 rintro ⟨i, R⟩ hI
 try dsimp only [List.cons_append, List.nil_append] at hI ⊢
 obtain ⟨hi, hRm, hRl, hRZ⟩ := hI
 have hrm : (R.map rowA).length = R.length := List.length_map _
 refine Zf (Zf (Zc (Za 19 V V V (Zd V V (Za 20 V V V (Zd V V ?_))))))
 refine Za 21 V V V (Yx V tu_22 V (.seq _ _) (fun n21 => ?_))
 refine Za 22 V V V (Yq V V V ?_); intro c22 h22
 refine Vq (Zb ?_)
 rcases Zh h22 with ⟨rfl, g22⟩ | ⟨rfl, g22⟩
 ·refine Zn V (Yy (Xa (Xs (Yz (Zb (Zf (Zc (Za 69 V V V (Zd V V (Za 10 V V V (Ze V V (Vq (Zb (Ya ?_))))))))))))))
  rw [Uj (by omega)] at hRZ
  rw [← hRZ]
  exact Yg V V (Vx _) (Vs _) ⟨V, V⟩
 ·refine Zr V (Zt (Zb (Zf (Zw (Zf ?_)))))
  obtain ⟨⟨qc, ⟨qtk, qts, qtn, qtl⟩⟩, hxq⟩ := Yu (l := l) (i := i) by7
  have hcq := Pr.cellss_get hxq
  have hmq := Ui hxq
  have HAq := HA _ hmq
  have hWq := hW (Pr.mk qc ⟨qtk, qts, qtn, qtl⟩)
  rw [Xn hxq, rowsM, List.foldl_cons] at hRZ
  generalize W (Pr.mk qc ⟨qtk, qts, qtn, qtl⟩) = w at *
  have hwl := Pf.cellss_len w
  obtain ⟨Y, hY⟩ : ∃ Y, (R.flatMap fun r => w.map fun x => r ++ [x]).take m = Y := ⟨_, rfl⟩
  rw [hY] at hRZ
  simp only [Pr.cells, Ty.cells] at HAq
  refine Wo Wk V (Zs 25 V V (Yc (cs' := [_, _, _]) V Wf V V V ⟨V, V⟩) ?_)
  refine Zs 26 V V (Zd V V ⟨V, V⟩) ?_
  refine Zs 27 V V (Zd V V ⟨V, V⟩) ?_
  refine Zs 28 V V (Zd V V ⟨V, V⟩) ?_
  refine Zs 29 V V (Yd V te_22 V (.seq _ _) V V (hcq) ⟨V, V⟩) ?_
  refine Zs 30 V V (Yc (cs' := [_, _, _, _, _]) V ta_27 V V V ⟨V, V⟩) ?_
  refine Zs 31 V V (Zd V V ⟨V, V⟩) ?_
  refine Zs 32 V V (Zd V V ⟨V, V⟩) ?_
  refine Zs 33 V V (Yk (xs := [.tmp 25, .tmp 26, .tmp 30, .tmp 31, .tmp 32]) V V (HAq) by1 ⟨V, V⟩) ?_
  refine Zs 13 V V (Ze V V ⟨V, V⟩) ?_
  show AGo _ _ _ _ _ _ _
  refine Zb (Zf (Zc (Za 14 V V V (Ze V V (Vq (Zb (Zf (Zf (Zc (Za 15 V V V (Ze V V (Vq (Zb (Zw (Xx 28 1 ?_)))))))))))))))
  apply Xp [0, 6, 7, 8, 9, 14, 15, 16, 17, 18, 34, 35, 36, 37, 38, 39, 40, 41, 42, 43, 44, 45, 46, 47, 48, 49, 50, 51, 52, 53, 54, 55, 56, 57, 58, 59, 60, 61, 62, 63, 64, 65, 66, 67] (σ := Nat × List (List Pf) × Value) (fun zz => match zz with | (k, N, u) => [(14, .own u 1 (N.map rowA)), (15, .val (.int .i64 k))]) (fun zz => match zz with | (k, N, u) => [.own 28 1 u]) (fun zz => match zz with | (k, N, u) => k ≤ R.length ∧ N.length ≤ m ∧ (N ++ ((R.drop k).flatMap fun r => w.map fun x => r ++ [x])).take m = Y) (fun zz => match zz with | (k, N, u) => R.length - k) ((0, [], .slice none 0 0))
  ·repeat' (first | exact Ug | apply Ue rfl | apply Uf rfl)
  ·exact ⟨Nat.zero_le _, Nat.zero_le _, hY⟩
  ·exact Ua V (Le.nilOwn 1) (Ua V (Vx _) (SLe.nil _))
  ·exact (Vw V)
  rintro ⟨k, N, u⟩ hI
  try dsimp only [List.cons_append, List.nil_append] at hI ⊢
  obtain ⟨hk, hNm, hNY⟩ := hI
  have hnm : (N.map rowA).length = N.length := List.length_map _
  refine Zf (Zf (Zc (Za 34 V V V (Zd V V (Za 35 V V V (Zd V V ?_))))))
  refine Za 36 V V V (Yx V tu_89 V (.seq _ _) (fun n36 => ?_))
  refine Za 37 V V V (Yq V V V ?_); intro c37 h37
  refine Vq (Zb ?_)
  rcases Zh h37 with ⟨rfl, g37⟩ | ⟨rfl, g37⟩
  ·refine Zn V (Yy (Xa (Xs (Yz (Zb ?_)))))
   rw [Uj (by omega), List.flatMap_nil, List.append_nil, List.take_of_length_le hNm] at hNY
   subst hNY
   refine Zc (Za 68 V V V (Zd V V (Za 11 V V V (Ze V V (Vq (Yn (Zb (Zc (Za 23 V V V (Zd V V (Za 24 V V V (Yt V V V (Uh _ (by omega)) ?_))))))))))))
   refine Za 12 V V V (Ze V V (Vq (Yv ?_)))
   refine ⟨(i + 1, N), ⟨by show i + 1 ≤ l.length; omega, hNm, ?_, hRZ⟩, by show l.length - (i + 1) < l.length - i; omega, Ua V (Le.own _ _ _) by4, Vs _⟩
   intro r hr
   rw [← hY] at hr
   obtain ⟨s, hs, hr⟩ := List.mem_flatMap.1 (List.mem_of_mem_take hr)
   obtain ⟨x, _, rfl⟩ := List.mem_map.1 hr
   have := hRl s hs
   rw [List.length_append, List.length_singleton]
   omega
  ·refine Zr V (Zt (Zb (Zf (Zw (Zf (Zc (Za 16 V V V (Ze V V (Vq (Zb (Zw ?_)))))))))))
   obtain ⟨r, hr⟩ := Yu (l := R) (i := k) (by omega)
   have hrb := hRl r (Ui hr)
   have hcr : (R.map rowA)[k]? = some (rowA r) := by rw [List.getElem?_map, hr]; rfl
   simp only [rowA] at hcr
   have hrl := Pf.cellss_len r
   rw [Xn hr, List.flatMap_cons] at hNY
   apply Xp [0, 6, 7, 8, 9, 14, 16, 17, 18, 40, 41, 42, 43, 44, 45, 46, 47, 48, 49, 50, 51, 52, 53, 54, 55, 56, 57, 58, 59, 60, 61, 62, 63, 64, 65, 66, 67] (σ := Nat × List (List Pf) × Value) (fun zz => match zz with | (j, N, u) => [(14, .own u 1 (N.map rowA)), (16, .val (.int .i64 j))]) (fun zz => match zz with | (j, N, u) => [.own 28 1 u]) (fun zz => match zz with | (j, N, u) => j ≤ w.length ∧ N.length ≤ m ∧ (N ++ (((w.drop j).map fun x => r ++ [x]) ++ ((R.drop (k + 1)).flatMap fun r => w.map fun x => r ++ [x]))).take m = Y) (fun zz => match zz with | (j, N, u) => w.length - j) ((0, N, u))
   ·repeat' (first | exact Ug | apply Ue rfl | apply Uf rfl)
   ·exact ⟨Nat.zero_le _, hNm, hNY⟩
   ·exact by4
   ·exact by3
   rintro ⟨j, N, u⟩ hI
   try dsimp only [List.cons_append, List.nil_append] at hI ⊢
   obtain ⟨hj, hNm, hNY⟩ := hI
   have hnm : (N.map rowA).length = N.length := List.length_map _
   refine Zf (Zf (Xj 49 (j < w.length ∧ N.length < m) ?_ _ _ V ?_))
   ·skip
    refine Za 40 V V V (Zd V V (Za 41 V V V (Zd V V ?_)))
    refine Za 42 V V V (Yx V tu_28 V (.seq _ _) (fun n42 => ?_))
    refine Za 43 V V V (Yq V V V ?_); intro c43 h43
    refine Za 44 V V V (Zd V V ?_)
    rcases Zh h43 with ⟨rfl, g43⟩ | ⟨rfl, g43⟩
    ·skip
     refine Zi 45 V V V V V (Zi 46 V V V V V (Zi 47 V V V V V (Zi 48 V V V V V (Za 49 V V V (Zo V V V (Vq (Ub V ?_ by5 by3)))))))
     simp_all; omega
    ·skip
     refine Zk 45 V V V V V (Zd V V ?_)
     refine Zk 46 V V V V V (Yx V tu_89 V (.own _ _ _) (fun n46 => ?_))
     refine Zk 47 V V V V V (Zd V V (Zk 48 V V V V V (Yq V V V ?_))); intro c48 h48
     refine Za 49 V V V (Zo V V V (Vq (Ub V ?_ by5 by3)))
     simp_all; done
   intro c49 h49
   refine Zb ?_
   rcases Zh h49 with ⟨rfl, g49⟩ | ⟨rfl, g49⟩
   ·refine Zn V (Yy (Xa (Xs (Yz (Yn (Zb (Zc (Za 38 V V V (Zd V V (Za 39 V V V (Yt V V V (Uh _ (by omega)) ?_)))))))))))
    refine Za 15 V V V (Ze V V (Vq (Yv ?_)))
    refine ⟨(k + 1, N, u), ⟨by show k + 1 ≤ R.length; omega, hNm, ?_⟩, by show R.length - (k + 1) < R.length - k; omega, by4, by3⟩
    by_cases q : j < w.length
    ·have hN : N.length = m := by omega
     rw [List.take_append_of_le_length (show m ≤ N.length by omega)] at hNY ⊢
     exact hNY
    ·rw [Uj (by omega), List.map_nil, List.nil_append] at hNY
     exact hNY
   ·refine Zr V (Zt (Zb (Zf (Zw (Zf (Zc (Za 17 V V V (Ze V V (Vq (Zb (Zf (Zc (Za 52 V V V (Zd V V (Za 53 V V V (Zd V V (Za 54 V V V (Zd V V (Za 55 V V V (Yd V te_89 V (.seq _ _) V V (hcr) (Za 56 V V V (Zp V ta_28 V V (Za 57 V V V (op_append_nil el_28 V V V (.seq _ _) by6 ?_))))))))))))))))))))))))
    intro u57
    refine Za 17 V V V (Ze V V (Vq (Zb ?_)))
    obtain ⟨⟨xk, xn, xc, xl⟩, hxx⟩ := Yu (l := w) (i := j) (by omega)
    have hcx := Pf.cellss_get hxx
    simp only [Pf.cells] at hcx
    rw [Xn hxx, List.map_cons, List.cons_append] at hNY
    refine Zc (Za 58 V V V (Zd V V (Za 59 V V V (Zd V V (Za 60 V V V (Zd V V (Za 61 V V V (Zd V V (Za 62 V V V (Yd V te_28 V (.seq _ _) V V (hcx) (Za 63 V V V (Yc (cs' := [_, _, _, _]) V Wu V V V (Za 64 V V V (Yb (xs := [.tmp 63]) el_28 V V V V V V (Ud V) (Za 65 V V V (Xg (i := 0) el_28 V V V V (.seq _ _) by6 ?_))))))))))))))))
    intro u65
    refine Za 66 V V V (Yb (xs := [.tmp 65]) el_89 V V V V V V (Ud V) (Za 67 V V V (Xg (i := 1) el_89 V V V V (.seq _ _) by6 ?_)))
    intro u67
    refine Za 14 V V V (Ze V V (Vq (Yn (Zb (Zc (Za 50 V V V (Zd V V (Za 51 V V V (Yt V V V (Uh _ (by omega)) ?_)))))))))
    refine Za 16 V V V (Ze V V (Vq (Yv ?_)))
    exact ⟨(j + 1, N ++ [r ++ [Pf.mk xk xn xc xl]], u67), ⟨by show j + 1 ≤ w.length; omega, by rw [List.length_append, List.length_singleton]; omega, by rw [List.append_assoc]; exact hNY⟩, by show w.length - (j + 1) < w.length - j; omega, Ua V (rowA_more (by simp only [Pf.cells]; rfl)) by4, by3⟩
end Go.Proofs.YtknodnfbaofngaaGreat
