/- EntailHolds: of any right declarations any proof holds for both or for neither, and any instance needs the same. -/
import Derived.Test.YtknodnfbaofngaaGreatKLNHolds7
import Derived.Test.YtknodnfbaofngaaGreatChecked
import Derived.Test.YtknodnfbaofngaaGreatRows
namespace Go.Proofs.YtknodnfbaofngaaGreat
open Go.RowKit
theorem may_eq {b : Nat} {L : List Tok} (hL : L.length ≤ 100000) {p : PS} {s : ByteArray} {c : Bool} (h : isP L p s = c) : MCall Tryz.prog 51 [.ptr b 0, .val (.string s)] (.loc b (psC L p)) (.val (.bool c)) (.loc b (psC L (if c = true then stepP p else p))) := by
 cases c with
 | true => exact may_yes hL h
 | false => exact may_no hL (by rw [h]; simp)
set_option maxHeartbeats 4000000 in
set_option maxRecDepth 100000 in
theorem operand_lam (b : Nat) (L : List Tok) (hL : L.length ≤ 100000) (n : Nat) (E : PS → Ex × PS) (HE : ExC b L n E) (p : PS) (k : POk L n p) (h1 : isP L p kBack = true) : MCall Tryz.prog 105 [.ptr b 0] (.loc b (psC L p)) (.agg (lambdaG L E (L.length + 1) (stepP p) (nxt L p).a).1.cells) (.loc b (psC L (lambdaG L E (L.length + 1) (stepP p) (nxt L p).a).2)) := by
 have HN := next_c b L p
 have HL := lambda_c b L hL n E HE (L.length + 1) (stepP p) (nxt L p).a ((Xr k h1).ok k) (by omega)
 obtain ⟨⟨tk, tt, tn, ta⟩, ht⟩ : ∃ t, nxt L p = t := ⟨_, rfl⟩
 rw [ht] at HN HL ⊢
 simp only [Tok.av] at HN HL ⊢
 obtain ⟨⟨⟨xk, xs, xn, ⟨xtk, xts, xtn, xtl⟩, xks, xal, xbs, xp⟩, p3⟩, e3⟩ : ∃ r, lambdaG L E (L.length + 1) (stepP p) ta = r := ⟨_, rfl⟩
 rw [e3] at HL ⊢
 simp only [Ex.cells, Ty.cells, List.cons_append, List.nil_append] at HL ⊢
 refine Zv Tryz.func105 J (by kernel_rfl) J (Uk J) ?_
 refine Ye (Zg (Zc (Za 2 J J J (Zy (cs' := [_, _, _, _, _, _, _, _, _, _, _]) J Wh J J ?_)))); intro b2
 refine Vx (Zb (Zg (Zc (Za 9 J J J (Zd J J (Za 10 J J J (Ww (xs := [.tmp 9]) [1] J J J (HN) by1 ?_)))))))
 refine Za 3 J J J (Zy (cs' := [_, _, _, _]) J Wq J J ?_); intro b3
 refine Zt J J (Zr (cs' := [_, _, _, _]) (i := 0) J Xk J J J J J (Uk J) J (Vx (Zb (Zg (Zg (Zc (Za 11 J J J (Zd J J (Za 12 J J J (Yi (xs := [.tmp 11, .const (.string ⟨#[92]⟩)]) (i := 2) J J J (may_yes hL h1) by1 ?_))))))))))
 refine Vx (Zb (Zu J (Zg (Zc (Za 13 J J J (Zd J J (Za 14 J J J (Zh J Wz J (Za 15 J J J (Zp (i := 0) J Yz J J J ?_))))))))))
 refine Za 16 J J J (Yi (xs := [.tmp 13, .tmp 15]) (i := 2) J J J (HL) by1 ?_)
 exact Zt J J (Zr (cs' := [_, _, _, _, _, _, _, _, _, _, _]) (i := 1) J Wt J J J J J (Uk J) J (Vx (Zb (Ya (Ym (i := 1) J J J Wj J (Ue _) (Ub _ (Ub _ (Ud J))) ⟨J, J⟩)))))
theorem bindsL_go {L : List Tok} {E : PS → Ex × PS} {f : Nat} {p : PS} {acc : List Bi} (h : isP L p kAnd = true) : bindsL L E (f + 1) p acc = bindsL L E f (bindG L E (stepP p)).2 (acc ++ [(bindG L E (stepP p)).1]) := by rw [bindsL, if_pos h]
theorem bindsL_end {L : List Tok} {E : PS → Ex × PS} {f : Nat} {p : PS} {acc : List Bi} (h : ¬ isP L p kAnd = true) : bindsL L E f p acc = (acc, p) := by
 cases f with
 | zero => rfl
 | succ f => rw [bindsL, if_neg h]
set_option maxHeartbeats 4000000 in
set_option maxRecDepth 100000 in
theorem operand_let (b : Nat) (L : List Tok) (hL : L.length ≤ 100000) (n : Nat) (E : PS → Ex × PS) (HE : ExC b L n E) (HA : ∀ q, POk L n q → Adv L q (E q).2) (p : PS) (k : POk L n p) (h1 : ¬ isP L p kBack = true) (h2 : isP L p kLet = true) (c23 : Bool) (h3 : isP L (stepP p) kRec = c23) (r : Ex × PS) (hr : letG L E (nxt L p).a (if c23 = true then 1 else 0) (if c23 = true then stepP (stepP p) else stepP p) = r) : MCall Tryz.prog 105 [.ptr b 0] (.loc b (psC L p)) (.agg r.1.cells) (.loc b (psC L r.2)) := by
 have HN := next_c b L p
 have k1 := (Xr k h2).ok k
 have HM := may_eq (b := b) hL h3
 have kq : POk L n (if c23 = true then stepP (stepP p) else stepP p) := by
  cases c23 with
  | true => exact (Xr k1 h3).ok k1
  | false => exact k1
 obtain ⟨⟨tk, tt, tn, ta⟩, ht⟩ : ∃ t, nxt L p = t := ⟨_, rfl⟩
 rw [ht] at HN hr
 simp only [Tok.av] at HN hr
 obtain ⟨p2, hp2⟩ : ∃ q, (if c23 = true then stepP (stepP p) else stepP p) = q := ⟨_, rfl⟩
 rw [hp2] at HM hr kq
 unfold letG at hr
 simp only [] at hr
 have HB := bind_c b L hL n E HE p2 kq
 have k3 := (bindG_adv HA kq).ok kq
 obtain ⟨⟨⟨bn, ⟨xk, xs, xn, ⟨xtk, xts, xtn, xtl⟩, xks, xal, xbs, xp⟩, bp⟩, p3⟩, e3⟩ : ∃ r, bindG L E p2 = r := ⟨_, rfl⟩
 rw [e3] at HB hr k3
 have k4 := (bindsL_adv HA (L.length + 1) p3 [Bi.mk bn (Ex.mk xk xs xn (Ty.mk xtk xts xtn xtl) xks xal xbs xp) bp] k3).ok k3
 obtain ⟨⟨bl, p4⟩, e4⟩ : ∃ r, bindsL L E (L.length + 1) p3 [Bi.mk bn (Ex.mk xk xs xn (Ty.mk xtk xts xtn xtl) xks xal xbs xp) bp] = r := ⟨_, rfl⟩
 simp only [] at hr k3
 rw [e4] at hr k4
 simp only [] at hr k4
 have H4 := take_c b L hL p4 k4.1 6 kIn
 have k5 := (Yp (kind := 6) (s := kIn) (by decide) k4).ok k4
 obtain ⟨⟨u5, p5⟩, e5⟩ : ∃ r, takeP L p4 6 kIn = r := ⟨_, rfl⟩
 rw [e5] at hr k5 H4
 simp only [] at hr k5 H4
 have HX := HE p5 k5
 obtain ⟨⟨⟨yk, ys, yn, ⟨ytk, yts, ytn, ytl⟩, yks, yal, ybs, yp⟩, p6⟩, e6⟩ : ∃ r, E p5 = r := ⟨_, rfl⟩
 rw [e6] at HX hr
 simp only [Bi.cells, Ex.cells, Ty.cells, List.cons_append, List.nil_append] at HB HX hr
 refine Zv Tryz.func105 J (by kernel_rfl) J (Uk J) ?_
 refine Ye (Zg (Zc (Za 2 J J J (Zy (cs' := [_, _, _, _, _, _, _, _, _, _, _]) J Wh J J ?_)))); intro b2
 refine Vx (Zb (Zg (Zc (Za 9 J J J (Zd J J (Za 10 J J J (Ww (xs := [.tmp 9]) [1] J J J (HN) by1 ?_)))))))
 refine Za 3 J J J (Zy (cs' := [_, _, _, _]) J Wq J J ?_); intro b3
 refine Zt J J (Zr (cs' := [_, _, _, _]) (i := 0) J Xk J J J J J (Uk J) J (Vx (Zb (Zg (Zg (Zc (Za 11 J J J (Zd J J (Za 12 J J J (Yi (xs := [.tmp 11, .const (.string ⟨#[92]⟩)]) (i := 2) J J J (may_no hL h1) by1 ?_))))))))))
 refine Vx (Zb (Zq J (Zw (Zb (Zg (Zg (Zc (Za 17 J J J (Zd J J (Za 18 J J J (Yi (xs := [.tmp 17, .const (.string ⟨#[108, 101, 116]⟩)]) (i := 2) J J J (may_yes hL h2) by1 ?_)))))))))))
 refine Vx (Zb (Zu J (Zg (Zc (Za 19 J J J (Zh J Wz J (Za 20 J J J (Zp (i := 0) J Yz J J J (Za 21 J J J (Yo (ns := [0, 7]) (xs := [.const (.int .i64 7), .tmp 20]) J Wh J tfl_110 J J J J ?_))))))))))
 refine Za 4 J J J (Zy (cs' := [_, _, _, _, _, _, _, _, _, _, _]) J Wh J J ?_); intro b4
 refine Zt J J (Zr (cs' := [_, _, _, _, _, _, _, _, _, _, _]) (i := 0) J Wt J J J J J (Uk J) J (Vx (Zb (Zg (Zg (Zc (Za 22 J J J (Zd J J (Za 23 J J J (Yi (xs := [.tmp 22, .const (.string ⟨#[114, 101, 99]⟩)]) (i := 3) J J J (HM) by1 ?_))))))))))
 refine Vx (Zb ?_)
 apply c_joink [1, 9, 10, 11, 12, 13, 14, 15, 16, 17, 18, 19, 20, 21, 22, 23, 24, 42, 56, 60] (σ := Unit) (fun zz => match zz with | z => []) (fun zz => match zz with | z => [.loc b4 [.val (.int .i64 7), .val (.string kE), .val (.int .i64 (if c23 = true then 1 else 0)), .val (.int .i64 0), .val (.string kE), .val (.int .i64 0), .val (.slice none 0 0), .val (.slice none 0 0), .val (.slice none 0 0), .val (.slice none 0 0), .val (.int .i64 ta)], .loc b3 (Tok.mk tk tt tn ta).av, .loc b2 zEx, .loc b (psC L p2)]) (fun zz => match zz with | z => True)
 ·repeat' (first | exact Un | apply Ul rfl | apply Um rfl)
 ·skip
  rcases c23 with _ | _
  ·refine Zq J (Zw (Xc ?_))
   exact ⟨(), trivial, by4, Ud J⟩
  ·refine Zu J (Zc (Za 24 J J J (Zh J tf_110_2 J (Zt J J (Zr (cs' := [_, _, _, _, _, _, _, _, _, _, _]) (i := 0) J ts_2 J J J J J (Uk J) J (Vx (Xc ?_)))))))
   exact ⟨(), trivial, by4, Ud J⟩
 rintro z hI
 try dsimp only [List.cons_append, List.nil_append] at hI ⊢
 refine Zb (Zg (Wc [0, 1, 2, 3, 4, 5, 6, 7] [3, 5, 7] [[], [0], [], [2], [2, 3], [0, 1, 2, 3, 4], [0, 1, 2, 3, 4, 5], [0, 1, 2, 3, 4, 5, 6]] Wi J (Yc 25 (none) (i := 0) J J J J J (Zh J tf_110_6 J ⟨J, J⟩) ?_)))
 refine Yc 26 (some 0) (i := 1) J J J J J (Zp (i := 0) J ta_53 J J J ⟨J, J⟩) ?_
 refine Yc 27 (none) (i := 2) J J J J J (Zd J J ⟨J, J⟩) ?_
 refine Xo 3 (i := 3) J J J J J (Yi (xs := [.tmp 27]) (i := 0) J J J (HB) by1 ⟨_, J, ?_⟩)
 refine Yc 29 (none) (i := 4) J J J J J (Yh (xs := [.tmp 28]) el_53 J J J J J J (Uk J) ⟨J, J⟩) ?_
 refine EOps.nw (i := 5) J J J (op_append_nil el_53 J J J (.seq _ _) by6 (fun u30 => ⟨_, J, ?_⟩))
 refine Yc 31 (none) (i := 6) J J J J J (Zh J tf_110_6 J ⟨J, J⟩) ?_
 refine Xo 0 (i := 7) J J J J J (Zr (cs' := [_, _, _, _, _, _, _, _, _, _, _]) (i := 0) J ts_53 J J J J J (Uk J) J ⟨_, J, ?_⟩)
 show AGo _ _ _ _ _ _ _
 refine Zb (Zg (Zz ?_))
 apply Wm [1, 9, 10, 11, 12, 13, 14, 15, 16, 17, 18, 19, 20, 21, 22, 23, 24, 25, 26, 27, 28, 29, 30, 31, 32, 33, 34, 35, 36, 37, 38, 39, 40, 42, 56, 60] (σ := PS × Nat × List Bi × Value) (fun zz => match zz with | (q, f, acc, u) => []) (fun zz => match zz with | (q, f, acc, u) => [.loc b4 [.val (.int .i64 7), .val (.string kE), .val (.int .i64 (if c23 = true then 1 else 0)), .val (.int .i64 0), .val (.string kE), .val (.int .i64 0), .val (.slice none 0 0), .val (.slice none 0 0), .val (.slice none 0 0), .own u 13 (Bi.cellss acc), .val (.int .i64 ta)], .loc b3 (Tok.mk tk tt tn ta).av, .loc b2 zEx, .loc b (psC L q), .own 112 13 u]) (fun zz => match zz with | (q, f, acc, u) => POk L n q ∧ L.length - q.at_ < f ∧ acc.length ≤ q.at_ + 1 ∧ bindsL L E f q acc = (bl, p4)) (fun zz => match zz with | (q, f, acc, u) => f) ((p3, L.length + 1, [Bi.mk bn (Ex.mk xk xs xn (Ty.mk xtk xts xtn xtl) xks xal xbs xp) bp], u30))
 ·repeat' (first | exact Un | apply Ul rfl | apply Um rfl)
 ·exact ⟨k3, by omega, by simp, e4⟩
 ·exact by4
 ·exact (Ud J)
 rintro ⟨q, f, acc, u⟩ hI
 try dsimp only [List.cons_append, List.nil_append] at hI ⊢
 obtain ⟨i1, i2, i3, hu⟩ := hI
 have hq1 := i1.1
 have hle : (Bi.cellss acc).length ≤ 200000 := by rw [Bi.cellss_len]; omega
 refine Zg (Zg (Zc (Za 32 J J J (Zd J J (Za 33 J J J (op_mayc (xs := [.tmp 32, .const (.string ⟨#[97, 110, 100]⟩)]) (i := 3) J J J (may_c b L hL q kAnd) by1 ?_ ?_))))))
 ·intro g33
  refine Vx (Zb (Zu J (Zw (Zb (Zz ?_)))))
  obtain ⟨f, rfl⟩ : ∃ f', f = f' + 1 := ⟨f - 1, by omega⟩
  rw [bindsL_go g33] at hu
  have l1 := (Xr i1 g33).ok i1
  have l2 := (bindG_adv HA l1).ok l1
  have b2' : (stepP q).at_ ≤ _ := (bindG_adv HA l1).1
  have b4' : (stepP q).at_ = q.at_ + 1 := rfl
  have b5' := (is_lt g33).2
  have HB2 := bind_c b L hL n E HE _ l1
  obtain ⟨⟨⟨cn, ⟨wk, ws, wn, ⟨wtk, wts, wtn, wtl⟩, wks, wal, wbs, wp⟩, cp⟩, q2⟩, f2⟩ : ∃ r, bindG L E (stepP q) = r := ⟨_, rfl⟩
  rw [f2] at HB2 hu l2 b2'
  simp only [Bi.cells, Ex.cells, Ty.cells, List.cons_append, List.nil_append] at HB2 hu l2 b2'
  have l3 := l2.1
  refine Wc [0, 1, 2, 3, 4, 5, 6, 7] [3, 5, 7] [[], [0], [], [2], [2, 3], [0, 1, 2, 3, 4], [0, 1, 2, 3, 4, 5], [0, 1, 2, 3, 4, 5, 6]] Wi J (Yc 34 (none) (i := 0) J J J J J (Zh J tf_110_6 J ⟨J, J⟩) ?_)
  refine Yc 35 (some 0) (i := 1) J J J J J (Zp (i := 0) J ta_53 J J J ⟨J, J⟩) ?_
  refine Yc 36 (none) (i := 2) J J J J J (Zd J J ⟨J, J⟩) ?_
  refine Xo 3 (i := 3) J J J J J (Yi (xs := [.tmp 36]) (i := 0) J J J (HB2) by1 ⟨_, J, ?_⟩)
  refine Yc 38 (none) (i := 4) J J J J J (Yh (xs := [.tmp 37]) el_53 J J J J J J (Uk J) ⟨J, J⟩) ?_
  refine Xo 4 (i := 5) J J J J J (Xj (i := 0) el_53 J J J J (.seq _ _) by6 (fun u39 => ⟨_, J, ?_⟩))
  refine Yc 40 (none) (i := 6) J J J J J (Zh J tf_110_6 J ⟨J, J⟩) ?_
  refine Xo 0 (i := 7) J J J J J (Zr (cs' := [_, _, _, _, _, _, _, _, _, _, _]) (i := 0) J ts_53 J J J J J (Uk J) J ⟨_, J, ?_⟩)
  show AGo _ _ _ _ _ _ _
  refine Yw (Xc ?_)
  refine ⟨(q2, f, acc ++ [Bi.mk cn (Ex.mk wk ws wn (Ty.mk wtk wts wtn wtl) wks wal wbs wp) cp], u39), ⟨l2, (by show L.length - q2.at_ < f; omega), (by show (acc ++ [Bi.mk cn (Ex.mk wk ws wn (Ty.mk wtk wts wtn wtl) wks wal wbs wp) cp]).length ≤ q2.at_ + 1; rw [List.length_append]; simp; omega), hu⟩, Nat.lt_succ_self f, by4, (Uc _ (Ug (Ue _) (Ug (Ue _) (Ug (Ue _) (Ug (Ue _) (Ug (Ue _) (Ug (Ue _) (Ug (Ue _) (Ug (Ue _) (Ug (Ue _) (Ug (Uj by10) (Uf _))))))))))) (Ua _ (Ua _ (Ud J))))⟩
 ·intro g33
  refine Vx (Zb (Zq J (Xd (Xf (Xz (Xe (Zb (Zg ?_))))))))
  rw [bindsL_end g33] at hu
  simp only [Prod.mk.injEq] at hu
  obtain ⟨rfl, rfl⟩ := hu
  refine Zc (Za 41 J J J (Zd J J (Za 42 J J J (Yi (xs := [.tmp 41, .const (.int .i64 6), .const (.string ⟨#[105, 110]⟩)]) (i := 3) J J J (H4) by1 ?_))))
  refine Vx (Zb (Zg (Wc [0, 1, 2, 3, 4, 5, 6, 7] [3, 5, 7] [[], [0], [], [2], [2, 3], [0, 1, 2, 3, 4], [0, 1, 2, 3, 4, 5], [0, 1, 2, 3, 4, 5, 6]] Wi J (Yc 43 (none) (i := 0) J J J J J (Zh J tf_110_4 J ⟨J, J⟩) ?_))))
  refine Yc 44 (some 0) (i := 1) J J J J J (Zp (i := 0) J ta_107 J J J ⟨J, J⟩) ?_
  refine Yc 45 (none) (i := 2) J J J J J (Zd J J ⟨J, J⟩) ?_
  refine Xo 3 (i := 3) J J J J J (Yi (xs := [.tmp 45]) (i := 0) J J J (HX) by1 ⟨_, J, ?_⟩)
  refine Yc 47 (none) (i := 4) J J J J J (Yh (xs := [.tmp 46]) el_107 J J J J J J (Uk J) ⟨J, J⟩) ?_
  refine EOps.nw (i := 5) J J J (op_append_nil el_107 J J J (.seq _ _) by6 (fun u48 => ⟨_, J, ?_⟩))
  refine Yc 49 (none) (i := 6) J J J J J (Zh J tf_110_4 J ⟨J, J⟩) ?_
  refine Xo 0 (i := 7) J J J J J (Zr (cs' := [_, _, _, _, _, _, _, _, _, _, _]) (i := 0) J ts_107 J J J J J (Uk J) J ⟨_, J, ?_⟩)
  show AGo _ _ _ _ _ _ _
  refine Zb (Zg (Zc (Za 50 J J J (Zx (cs' := [_, _, _, _, _, _, _, _, _, _, _]) (i := 0) J Wj J J J J (Zt J J (Zr (cs' := [_, _, _, _, _, _, _, _, _, _, _]) (i := 2) J Wt J J J J J (Uk J) J (Vx (Zb (Ya ?_)))))))))
  subst hr; exact Ym (i := 2) rfl rfl rfl Wj rfl by0 (Ub _ (Ub _ (Ub _ (Ua _ (Vz _))))) ⟨rfl, rfl⟩
set_option maxHeartbeats 4000000 in
set_option maxRecDepth 100000 in
theorem operand_if (b : Nat) (L : List Tok) (hL : L.length ≤ 100000) (n : Nat) (E : PS → Ex × PS) (HE : ExC b L n E) (HA : ∀ q, POk L n q → Adv L q (E q).2) (p : PS) (k : POk L n p) (h1 : ¬ isP L p kBack = true) (h2 : ¬ isP L p kLet = true) (h3 : isP L p kIf = true) : MCall Tryz.prog 105 [.ptr b 0] (.loc b (psC L p)) (.agg (ifG L E (nxt L p).a (stepP p)).1.cells) (.loc b (psC L (ifG L E (nxt L p).a (stepP p)).2)) := by
 have HN := next_c b L p
 obtain ⟨r, hr⟩ : ∃ r, ifG L E (nxt L p).a (stepP p) = r := ⟨_, rfl⟩
 rw [hr]
 unfold ifG at hr
 simp only [] at hr
 obtain ⟨⟨tk, tt, tn, ta⟩, ht⟩ : ∃ t, nxt L p = t := ⟨_, rfl⟩
 rw [ht] at HN hr
 simp only [Tok.av] at HN hr
 have k1 := (Xr k h3).ok k
 have H1 := HE _ k1
 have k2 := (HA _ k1).ok k1
 obtain ⟨⟨⟨xk, xs, xn, ⟨xtk, xts, xtn, xtl⟩, xks, xal, xbs, xp⟩, p2⟩, e2⟩ : ∃ r, E (stepP p) = r := ⟨_, rfl⟩
 rw [e2] at H1 k2 hr
 simp only [] at k2 hr
 have H2 := take_c b L hL p2 k2.1 6 kThen
 have k3 := (Yp (kind := 6) (s := kThen) (by decide) k2).ok k2
 obtain ⟨⟨u3, p3⟩, e3⟩ : ∃ r, takeP L p2 6 kThen = r := ⟨_, rfl⟩
 rw [e3] at H2 k3 hr
 simp only [] at H2 k3 hr
 have H3 := HE _ k3
 have k4 := (HA _ k3).ok k3
 obtain ⟨⟨⟨yk, ys, yn, ⟨ytk, yts, ytn, ytl⟩, yks, yal, ybs, yp⟩, p4⟩, e4⟩ : ∃ r, E p3 = r := ⟨_, rfl⟩
 rw [e4] at H3 k4 hr
 simp only [] at k4 hr
 have H4 := take_c b L hL p4 k4.1 6 kElse
 have k5 := (Yp (kind := 6) (s := kElse) (by decide) k4).ok k4
 obtain ⟨⟨u5, p5⟩, e5⟩ : ∃ r, takeP L p4 6 kElse = r := ⟨_, rfl⟩
 rw [e5] at H4 k5 hr
 simp only [] at H4 k5 hr
 have H5 := HE _ k5
 obtain ⟨⟨⟨zk, zs, zn, ⟨ztk, zts, ztn, ztl⟩, zks, zal, zbs, zp⟩, p6⟩, e6⟩ : ∃ r, E p5 = r := ⟨_, rfl⟩
 rw [e6] at H5 hr
 simp only [Ex.cells, Ty.cells, List.cons_append, List.nil_append] at H1 H3 H5 hr
 refine Zv Tryz.func105 J (by kernel_rfl) J (Uk J) ?_
 refine Ye (Zg (Zc (Za 2 J J J (Zy (cs' := [_, _, _, _, _, _, _, _, _, _, _]) J Wh J J ?_)))); intro b2
 refine Vx (Zb (Zg (Zc (Za 9 J J J (Zd J J (Za 10 J J J (Ww (xs := [.tmp 9]) [1] J J J (HN) by1 ?_)))))))
 refine Za 3 J J J (Zy (cs' := [_, _, _, _]) J Wq J J ?_); intro b3
 refine Zt J J (Zr (cs' := [_, _, _, _]) (i := 0) J Xk J J J J J (Uk J) J (Vx (Zb (Zg (Zg (Zc (Za 11 J J J (Zd J J (Za 12 J J J (Yi (xs := [.tmp 11, .const (.string ⟨#[92]⟩)]) (i := 2) J J J (may_no hL h1) by1 ?_))))))))))
 refine Vx (Zb (Zq J (Zw (Zb (Zg (Zg (Zc (Za 17 J J J (Zd J J (Za 18 J J J (Yi (xs := [.tmp 17, .const (.string ⟨#[108, 101, 116]⟩)]) (i := 2) J J J (may_no hL h2) by1 ?_)))))))))))
 refine Vx (Zb (Zq J (Zw (Zb (Zg (Zg (Zc (Za 51 J J J (Zd J J (Za 52 J J J (Yi (xs := [.tmp 51, .const (.string ⟨#[105, 102]⟩)]) (i := 2) J J J (may_yes hL h3) by1 ?_)))))))))))
 refine Vx (Zb (Zu J (Zg (Zc (Za 53 J J J (Zd J J (Za 54 J J J (Yi (xs := [.tmp 53]) (i := 2) J J J (H1) by1 ?_))))))))
 refine Za 5 J J J (Zy (cs' := [_, _, _, _, _, _, _, _, _, _, _]) J Wh J J ?_); intro b5
 refine Zt J J (Zr (cs' := [_, _, _, _, _, _, _, _, _, _, _]) (i := 0) J Wt J J J J J (Uk J) J (Vx (Zb (Zg (Zc (Za 55 J J J (Zd J J (Za 56 J J J (Yi (xs := [.tmp 55, .const (.int .i64 6), .const (.string ⟨#[116, 104, 101, 110]⟩)]) (i := 3) J J J (H2) by1 ?_)))))))))
 refine Vx (Zb (Zg (Zc (Za 57 J J J (Zd J J (Za 58 J J J (Yi (xs := [.tmp 57]) (i := 3) J J J (H3) by1 ?_)))))))
 refine Za 6 J J J (Zy (cs' := [_, _, _, _, _, _, _, _, _, _, _]) J Wh J J ?_); intro b6
 refine Zt J J (Zr (cs' := [_, _, _, _, _, _, _, _, _, _, _]) (i := 0) J Wt J J J J J (Uk J) J (Vx (Zb (Zg (Zc (Za 59 J J J (Zd J J (Za 60 J J J (Yi (xs := [.tmp 59, .const (.int .i64 6), .const (.string ⟨#[101, 108, 115, 101]⟩)]) (i := 4) J J J (H4) by1 ?_)))))))))
 refine Vx (Zb (Zg (Zc (Za 61 J J J (Zd J J (Za 62 J J J (Yi (xs := [.tmp 61]) (i := 4) J J J (H5) by1 ?_)))))))
 refine Za 7 J J J (Zy (cs' := [_, _, _, _, _, _, _, _, _, _, _]) J Wh J J ?_); intro b7
 refine Zt J J (Zr (cs' := [_, _, _, _, _, _, _, _, _, _, _]) (i := 0) J Wt J J J J J (Uk J) J (Vx (Zb (Zg (Zc (Za 63 J J J (Zx (cs' := [_, _, _, _, _, _, _, _, _, _, _]) (i := 2) J Wj J J J J (Za 64 J J J (Zx (cs' := [_, _, _, _, _, _, _, _, _, _, _]) (i := 1) J Wj J J J J (Za 65 J J J (Zx (cs' := [_, _, _, _, _, _, _, _, _, _, _]) (i := 0) J Wj J J J J (Za 66 J J J (Yh (xs := [.tmp 63, .tmp 64, .tmp 65]) el_107 J J J J J J (Uk J) ?_)))))))))))))
 refine Za 67 J J J (Zh J Wz J (Za 68 J J J (Zp (i := 3) J Yz J J J (Za 69 J J J (Yo (ns := [0, 4, 7]) (xs := [.const (.int .i64 9), .tmp 66, .tmp 68]) J Wh J tfl_110 J J J J (Zt J J (Zr (cs' := [_, _, _, _, _, _, _, _, _, _, _]) (i := 4) J Wt J J J J J (Uk J) J (Vx (Zb (Ya ?_))))))))))
 subst hr; exact Ym (i := 4) rfl rfl rfl Wj rfl by0 (Ub _ (Ub _ (Ub _ (Ub _ (Ub _ (Ud rfl)))))) ⟨rfl, rfl⟩
theorem appsL_go {L : List Tok} {E : PS → Ex × PS} {a : Int} {f : Nat} {p : PS} {x : Ex} (h : startsP L 2 p) : appsL L E a (f + 1) p x = appsL L E a f (atomG L E p).2 (opE 5 [x, (atomG L E p).1] a) := by rw [appsL, if_pos h]
theorem appsL_end {L : List Tok} {E : PS → Ex × PS} {a : Int} {f : Nat} {p : PS} {x : Ex} (h : ¬ startsP L 2 p) : appsL L E a f p x = (x, p) := by
 cases f with
 | zero => rfl
 | succ f => rw [appsL, if_neg h]
set_option maxHeartbeats 4000000 in
set_option maxRecDepth 100000 in
theorem operand_app (b : Nat) (L : List Tok) (hL : L.length ≤ 100000) (n : Nat) (E : PS → Ex × PS) (HE : ExC b L n E) (HA : ∀ q, POk L n q → Adv L q (E q).2) (p : PS) (k : POk L n p) (h1 : ¬ isP L p kBack = true) (h2 : ¬ isP L p kLet = true) (h3 : ¬ isP L p kIf = true) (r : Ex × PS) (hr : appsL L E (nxt L p).a (L.length + 1) (atomG L E p).2 (atomG L E p).1 = r) : MCall Tryz.prog 105 [.ptr b 0] (.loc b (psC L p)) (.agg r.1.cells) (.loc b (psC L r.2)) := by
 have HN := next_c b L p
 obtain ⟨⟨tk, tt, tn, ta⟩, ht⟩ : ∃ t, nxt L p = t := ⟨_, rfl⟩
 rw [ht] at HN hr
 simp only [Tok.av] at HN hr
 have H1 := atom_c b L hL n E HE HA p k
 have k2 := (atom_adv HA k).ok k
 obtain ⟨⟨⟨zk, zs, zn, ⟨ztk, zts, ztn, ztl⟩, zks, zal, zbs, zp⟩, p2⟩, e2⟩ : ∃ r, atomG L E p = r := ⟨_, rfl⟩
 rw [e2] at H1 k2 hr
 simp only [Ex.cells, Ty.cells, List.cons_append, List.nil_append] at H1 k2 hr
 refine Zv Tryz.func105 J (by kernel_rfl) J (Uk J) ?_
 refine Ye (Zg (Zc (Za 2 J J J (Zy (cs' := [_, _, _, _, _, _, _, _, _, _, _]) J Wh J J ?_)))); intro b2
 refine Vx (Zb (Zg (Zc (Za 9 J J J (Zd J J (Za 10 J J J (Ww (xs := [.tmp 9]) [1] J J J (HN) by1 ?_)))))))
 refine Za 3 J J J (Zy (cs' := [_, _, _, _]) J Wq J J ?_); intro b3
 refine Zt J J (Zr (cs' := [_, _, _, _]) (i := 0) J Xk J J J J J (Uk J) J (Vx (Zb (Zg (Zg (Zc (Za 11 J J J (Zd J J (Za 12 J J J (Yi (xs := [.tmp 11, .const (.string ⟨#[92]⟩)]) (i := 2) J J J (may_no hL h1) by1 ?_))))))))))
 refine Vx (Zb (Zq J (Zw (Zb (Zg (Zg (Zc (Za 17 J J J (Zd J J (Za 18 J J J (Yi (xs := [.tmp 17, .const (.string ⟨#[108, 101, 116]⟩)]) (i := 2) J J J (may_no hL h2) by1 ?_)))))))))))
 refine Vx (Zb (Zq J (Zw (Zb (Zg (Zg (Zc (Za 51 J J J (Zd J J (Za 52 J J J (Yi (xs := [.tmp 51, .const (.string ⟨#[105, 102]⟩)]) (i := 2) J J J (may_no hL h3) by1 ?_)))))))))))
 refine Vx (Zb (Zq J (Zw (Zb (Zg (Zc (Za 70 J J J (Zd J J (Za 71 J J J (Yi (xs := [.tmp 70]) (i := 2) J J J (H1) by1 ?_))))))))))
 refine Za 8 J J J (Zy (cs' := [_, _, _, _, _, _, _, _, _, _, _]) J Wh J J ?_); intro b8
 refine Zt J J (Zr (cs' := [_, _, _, _, _, _, _, _, _, _, _]) (i := 0) J Wt J J J J J (Uk J) J (Vx (Zb (Zg (Zz ?_)))))
 apply Wm [1, 4, 5, 6, 7, 9, 10, 11, 12, 13, 14, 15, 16, 17, 18, 19, 20, 21, 22, 23, 24, 25, 26, 27, 28, 29, 30, 31, 32, 33, 34, 35, 36, 37, 38, 39, 40, 41, 42, 43, 44, 45, 46, 47, 48, 49, 50, 51, 52, 53, 54, 55, 56, 57, 58, 59, 60, 61, 62, 63, 64, 65, 66, 67, 68, 69, 70, 71, 72, 73, 74, 75, 76, 77, 78, 79, 80] (σ := PS × Nat × Ex) (fun zz => match zz with | (q, f, Ex.mk xk xs xn (Ty.mk xtk xts xtn xtl) xks xal xbs xp) => []) (fun zz => match zz with | (q, f, Ex.mk xk xs xn (Ty.mk xtk xts xtn xtl) xks xal xbs xp) => [.loc b8 [.val (.int .i64 xk), .val (.string xs), .val (.int .i64 xn), .val (.int .i64 xtk), .val (.string xts), .val (.int .i64 xtn), .seq 4 (Ty.cellss xtl), .seq 11 (Ex.cellss xks), .seq 16 (Al.cellss xal), .seq 13 (Bi.cellss xbs), .val (.int .i64 xp)], .loc b3 (Tok.mk tk tt tn ta).av, .loc b2 zEx, .loc b (psC L q)]) (fun zz => match zz with | (q, f, Ex.mk xk xs xn (Ty.mk xtk xts xtn xtl) xks xal xbs xp) => POk L n q ∧ L.length - q.at_ < f ∧ appsL L E ta f q (Ex.mk xk xs xn (Ty.mk xtk xts xtn xtl) xks xal xbs xp) = r) (fun zz => match zz with | (q, f, Ex.mk xk xs xn (Ty.mk xtk xts xtn xtl) xks xal xbs xp) => f) ((p2, L.length + 1, Ex.mk zk zs zn (Ty.mk ztk zts ztn ztl) zks zal zbs zp))
 ·repeat' (first | exact Un | apply Ul rfl | apply Um rfl)
 ·exact ⟨k2, by omega, hr⟩
 ·exact by4
 ·exact (Ud J)
 rintro ⟨q, f, ⟨xk, xs, xn, ⟨xtk, xts, xtn, xtl⟩, xks, xal, xbs, xp⟩⟩ hI
 try dsimp only [List.cons_append, List.nil_append] at hI ⊢
 obtain ⟨i1, i2, hu⟩ := hI
 have hq1 := i1.1
 refine Zg (Zg (Zc (Za 72 J J J (Zd J J (Za 73 J J J (op_callkb (xs := [.tmp 72, .const (.int .i64 2)]) [3] J J J (starts_c b L q 2) by1 ?_)))))); intro c73 h73
 refine Vx (Zb ?_)
 rcases Zi h73 with ⟨rfl, g73⟩ | ⟨rfl, g73⟩
 ·refine Zq J (Xd (Xf (Xz (Xe (Zb (Zg (Zc (Za 81 J J J (Zx (cs' := [_, _, _, _, _, _, _, _, _, _, _]) (i := 0) J Wj J J J J (Zt J J (Zr (cs' := [_, _, _, _, _, _, _, _, _, _, _]) (i := 2) J Wt J J J J J (Uk J) J (Vx (Zb (Ya ?_))))))))))))))
  rw [appsL_end g73] at hu; subst hu; exact Ym (i := 2) rfl rfl rfl Wj rfl (Ue _) (Ub _ (Ub _ (Ub _ (Ud rfl)))) ⟨rfl, rfl⟩
 ·refine Zu J (Zw (Zb (Zz ?_)))
  obtain ⟨f, rfl⟩ : ∃ f', f = f' + 1 := ⟨f - 1, by omega⟩
  rw [appsL_go g73] at hu
  have b1 := atom_lt HA i1 g73
  have l2 := (atom_adv HA i1).ok i1
  have HA2 := atom_c b L hL n E HE HA q i1
  obtain ⟨⟨⟨wk, ws, wn, ⟨wtk, wts, wtn, wtl⟩, wks, wal, wbs, wp⟩, q2⟩, f2⟩ : ∃ r, atomG L E q = r := ⟨_, rfl⟩
  rw [f2] at HA2 hu l2 b1
  simp only [Ex.cells, Ty.cells, List.cons_append, List.nil_append] at HA2 hu l2 b1
  have l3 := l2.1
  refine Wc [0, 1, 4, 5, 2, 3, 6, 7] [2, 7] [[], [], [1], [0, 1, 2], [], [4], [0, 1, 2, 3, 4, 5], [0, 1, 2, 3, 4, 5, 6]] Wi J (Yc 74 (some 0) (i := 0) J J J J J (Zx (cs' := [_, _, _, _, _, _, _, _, _, _, _]) (i := 0) J Wj J J J J ⟨J, J⟩) ?_)
  refine Yc 75 (none) (i := 1) J J J J J (Zd J J ⟨J, J⟩) ?_
  refine Yc 78 (none) (i := 4) J J J J J (Zh J Wz J ⟨J, J⟩) ?_
  refine Yc 79 (some 1) (i := 5) J J J J J (Zp (i := 0) J Yz J J J ⟨J, J⟩) ?_
  refine Xo 3 (i := 2) J J J J J (Yi (xs := [.tmp 75]) (i := 0) J J J (HA2) by1 ⟨_, J, ?_⟩)
  refine Yc 77 (none) (i := 3) J J J J J (Yh (xs := [.tmp 74, .tmp 76]) el_107 J J J J J J (Uk J) ⟨J, J⟩) ?_
  refine Yc 80 (none) (i := 6) J J J J J (Yo (ns := [0, 4, 7]) (xs := [.const (.int .i64 5), .tmp 77, .tmp 79]) J Wh J tfl_110 J J J J ⟨J, J⟩) ?_
  refine Xo 0 (i := 7) J J J J J (Zr (cs' := [_, _, _, _, _, _, _, _, _, _, _]) (i := 0) J Wt J J J J J (Uk J) J ⟨_, J, ?_⟩)
  show AGo _ _ _ _ _ _ _
  refine Yw (Xc ?_)
  refine ⟨(q2, f, Ex.mk 5 kE 0 (Ty.mk 0 kE 0 []) [Ex.mk xk xs xn (Ty.mk xtk xts xtn xtl) xks xal xbs xp, Ex.mk wk ws wn (Ty.mk wtk wts wtn wtl) wks wal wbs wp] [] [] ta), ⟨l2, (by show L.length - q2.at_ < f; omega), hu⟩, Nat.lt_succ_self f, by4, (Uc _ by0 (Ua _ (Ua _ (Ud J))))⟩
theorem operand_c (b : Nat) (L : List Tok) (hL : L.length ≤ 100000) (n : Nat) (E : PS → Ex × PS) (HE : ExC b L n E) (HA : ∀ q, POk L n q → Adv L q (E q).2) (p : PS) (k : POk L n p) : MCall Tryz.prog 105 [.ptr b 0] (.loc b (psC L p)) (.agg (operandG L E p).1.cells) (.loc b (psC L (operandG L E p).2)) := by
 unfold operandG
 by_cases h1 : isP L p kBack = true
 ·rw [if_pos h1]; exact operand_lam b L hL n E HE p k h1
 by_cases h2 : isP L p kLet = true
 ·rw [if_neg h1, if_pos h2]
  by_cases h3 : isP L (stepP p) kRec = true
  ·rw [if_pos h3]; exact operand_let b L hL n E HE HA p k h1 h2 true h3 _ rfl
  ·rw [if_neg h3]; exact operand_let b L hL n E HE HA p k h1 h2 false (by simpa using h3) _ rfl
 by_cases h3 : isP L p kIf = true
 ·rw [if_neg h1, if_neg h2, if_pos h3]; exact operand_if b L hL n E HE HA p k h1 h2 h3
 ·rw [if_neg h1, if_neg h2, if_neg h3]; exact operand_app b L hL n E HE HA p k h1 h2 h3 _ rfl
set_option maxHeartbeats 4000000 in
set_option maxRecDepth 100000 in
theorem Exp_err (b : Nat) (L : List Tok) (p : PS) (he : p.e ≠ 0) : MCall Tryz.prog 86 [.ptr b 0] (.loc b (psC L p)) (.agg ex0.cells) (.loc b (psC L p)) := by
 refine Zv Tryz.func86 J (by kernel_rfl) J (Uk J) ?_
 refine Ye (Zg (Zc (Za 2 J J J (Zy (cs' := [_, _, _, _, _, _, _, _, _, _, _]) J Wh J J ?_)))); intro b2
 refine Vx (Zb (Zg (Zg (Zc (Za 8 J J J (Zd J J (Za 9 J J J (Yl J J (Za 10 J J J (Zh J Vs J (Za 11 J J J (Zp (i := 1) J Yz J J J (Za 12 J J J (Xp J J J ?_)))))))))))))); intro c12 h12
 refine Vx (Zb ?_)
 rcases Zi h12 with ⟨rfl, g12⟩ | ⟨rfl, g12⟩
 ·exact absurd he g12
 ·exact Zu J (Zg (Zc (Za 13 J J J (Yo (ns := []) (xs := []) J Wh J tfl_110 J J J J (Zt J J (Zr (cs' := [_, _, _, _, _, _, _, _, _, _, _]) (i := 0) J Wt J J J J J (Uk J) J (Vx (Zb (Ya (Ym (i := 0) J J J Wj J by0 (Ub _ (Vy _)) ⟨J, J⟩))))))))))
theorem clash_in (lv : Nat → Nat) : ∀ f k, clashL lv f k = -1 ∨ ((k : Int) ≤ clashL lv f k ∧ clashL lv f k < k + f)
 | 0, k => .inl rfl
 | f + 1, k => by
  unfold clashL
  split
  ·right; omega
  ·rcases clash_in lv f (k + 1) with h | h
   ·exact .inl h
   ·right; omega
theorem clashP_lt {ops : List Tok} (h : 0 ≤ clashP ops) : (clashP ops).toNat < ops.length := by
 rcases clash_in (lvT ops) ops.length 0 with q | q <;> unfold clashP at * <;> omega
theorem opsL_go {L : List Tok} {E : PS → Ex × PS} {f : Nat} {p : PS} {l : List Ex} {o : List Tok} (h : (nxt L p).k = 5) : opsL L E (f + 1) p l o = opsL L E f (operandG L E (takeP L p 5 kE).2).2 (l ++ [(operandG L E (takeP L p 5 kE).2).1]) (o ++ [(takeP L p 5 kE).1]) := by rw [opsL, if_pos h]
theorem opsL_end {L : List Tok} {E : PS → Ex × PS} {f : Nat} {p : PS} {l : List Ex} {o : List Tok} (h : ¬ (nxt L p).k = 5) : opsL L E f p l o = ((l, o), p) := by
 cases f with
 | zero => rfl
 | succ f => rw [opsL, if_neg h]
set_option maxHeartbeats 4000000 in
set_option maxRecDepth 100000 in
theorem Exp_ok (b : Nat) (L : List Tok) (hL : L.length ≤ 100000) (n : Nat) (E : PS → Ex × PS) (HE : ExC b L n E) (HA : ∀ q, POk L n q → Adv L q (E q).2) (p : PS) (k : POk L (n + 1) p) (he : p.e = 0) (r : Ex × PS) (hr : joinE (opsL L E (L.length + 1) (operandG L E (deeperP L p)).2 [(operandG L E (deeperP L p)).1] []) = r) : MCall Tryz.prog 86 [.ptr b 0] (.loc b (psC L p)) (.agg r.1.cells) (.loc b (psC L r.2)) := by
 have kq := deeper_ok k he
 have H1 := operand_c b L hL n E HE HA _ kq
 have k2 := (operand_adv HA kq).ok kq
 obtain ⟨⟨⟨zk, zs, zn, ⟨ztk, zts, ztn, ztl⟩, zks, zal, zbs, zp⟩, p2⟩, e2⟩ : ∃ r, operandG L E (deeperP L p) = r := ⟨_, rfl⟩
 rw [e2] at H1 k2 hr
 simp only [] at k2 hr
 obtain ⟨⟨⟨yl, yo⟩, p4⟩, e4⟩ : ∃ r, opsL L E (L.length + 1) p2 [Ex.mk zk zs zn (Ty.mk ztk zts ztn ztl) zks zal zbs zp] [] = r := ⟨_, rfl⟩
 rw [e4] at hr
 unfold joinE at hr
 simp only [Ex.cells, Ty.cells, List.cons_append, List.nil_append] at H1 hr
 refine Zv Tryz.func86 J (by kernel_rfl) J (Uk J) ?_
 refine Ye (Zg (Zc (Za 2 J J J (Zy (cs' := [_, _, _, _, _, _, _, _, _, _, _]) J Wh J J ?_)))); intro b2
 refine Vx (Zb (Zg (Zg (Zc (Za 8 J J J (Zd J J (Za 9 J J J (Yl J J (Za 10 J J J (Zh J Vs J (Za 11 J J J (Zp (i := 1) J Yz J J J (Za 12 J J J (Xp J J J ?_)))))))))))))); intro c12 h12
 refine Vx (Zb ?_)
 rcases Zi h12 with ⟨rfl, g12⟩ | ⟨rfl, g12⟩
 ·refine Zq J (Zw (Zb (Zg (Zc (Za 14 J J J (Zd J J ?_))))))
  refine Za 15 J J J (Yi (xs := [.tmp 14]) (i := 1) J J J (deeper_c b L p k.2.1 (by have := k.2.2.1; omega)) by1 ?_)
  refine Vx (Zb (Zg (Zc (Za 16 J J J (Zd J J (Za 17 J J J (Yi (xs := [.tmp 16]) (i := 1) J J J (H1) by1 ?_)))))))
  refine Za 18 J J J (op_buildSlice_own (xs := [.tmp 17]) el_107 J J J J J J (Uk J) ?_); intro u18
  refine Za 3 J J J (Zf J J (Vx (Zb (Zg (Zc (Za 4 J J J (Zf J J (Vx (Zb (Zg (Zc (Za 5 J J J (Zf J J (Vx (Zb (Zg (Zz ?_)))))))))))))))))
  refine Wg 97 4 (Wg 9 1 ?_)
  apply Wm [1, 3, 4, 5, 6, 8, 9, 10, 11, 12, 13, 14, 15, 16, 17, 18, 19, 20, 21, 22, 23, 24, 25, 26, 27, 28, 29, 30, 31, 32, 33, 34, 35, 36, 37, 38, 55] (σ := PS × Nat × List Ex × List Tok × Value × Value × Value) (fun zz => match zz with | (q, f, l, ops, u, v, w) => [(3, .own u 11 (Ex.cellss l)), (4, .own v 4 (ops.map Tok.av)), (5, .own w 1 (strs (ops.map Tok.t)))]) (fun zz => match zz with | (q, f, l, ops, u, v, w) => [.own 110 11 u, .loc b2 zEx, .loc b (psC L q), .own 97 4 v, .own 9 1 w]) (fun zz => match zz with | (q, f, l, ops, u, v, w) => POk L n q ∧ L.length - q.at_ < f ∧ l.length = ops.length + 1 ∧ ops.length ≤ q.at_ ∧ opsL L E f q l ops = ((yl, yo), p4)) (fun zz => match zz with | (q, f, l, ops, u, v, w) => f) ((p2, L.length + 1, [Ex.mk zk zs zn (Ty.mk ztk zts ztn ztl) zks zal zbs zp], [], u18, .slice none 0 0, .slice none 0 0))
  ·repeat' (first | exact Un | apply Ul rfl | apply Um rfl)
  ·exact ⟨k2, by omega, J, Nat.zero_le _, e4⟩
  ·exact Uh J (Ue _) (Uh J (Le.nilOwn 4) (Uh J (Le.nilOwn 1) (SLe.nil _)))
  ·exact (Ud J)
  rintro ⟨q, f, l, ops, u, v, w⟩ hI
  try dsimp only [List.cons_append, List.nil_append] at hI ⊢
  obtain ⟨i1, i2, i3, i4, hu⟩ := hI
  have hq1 := i1.1
  have hb1 := i1.2.1
  have hb2 := i1.2.2.1
  have hl1 : (Ex.cellss l).length ≤ 200000 := by rw [Ex.cellss_len]; omega
  have hl2 : (ops.map Tok.av).length ≤ 200000 := by rw [List.length_map]; omega
  have hl3 : (strs (ops.map Tok.t)).length ≤ 200000 := by rw [Xw, List.length_map]; omega
  have HN := next_c b L q
  have hkn : (nxt L q).k = 5 → q.at_ < L.length := fun e => (Vw (by omega)).2
  have hgo := fun f => opsL_go (L := L) (E := E) (f := f) (p := q) (l := l) (o := ops)
  have hend := opsL_end (L := L) (E := E) (f := f) (p := q) (l := l) (o := ops)
  have htk := fun h : (nxt L q).k = 5 => take_k (s := kE) h (by decide) (by decide)
  obtain ⟨⟨qk, qt, qn, qa⟩, hqt⟩ : ∃ t, nxt L q = t := ⟨_, rfl⟩
  rw [hqt] at HN hkn hgo hend htk
  simp only [Tok.av] at HN hkn hgo hend htk
  refine Zg (Zg (Zc (Za 19 J J J (Zd J J (Za 20 J J J (Ww (xs := [.tmp 19]) [2] J J J (HN) by1 ?_))))))
  refine Za 21 J J J (Vd (ft := 3) (fo := 0) J (by kernel_rfl) Yz J J ?_)
  refine Za 22 J J J (Yk J J J ?_); intro c22 h22
  refine Vx (Zb ?_)
  rcases Zi h22 with ⟨rfl, g22⟩ | ⟨rfl, g22⟩
  ·refine Zq J (Xd (Xf (Xz (Xe (Zb (Zg (Zg ?_)))))))
   rw [hend g22] at hu
   simp only [Prod.mk.injEq] at hu
   obtain ⟨⟨rfl, rfl⟩, rfl⟩ := hu
   refine Zc (Za 39 J J J (Zd J J (Za 40 J J J (Yl J J (Za 41 J J J (Zh J Vs J (Za 42 J J J (Zp (i := 2) J Yz J J J (Za 43 J J J (Xp J J J ?_)))))))))); intro c43 h43
   refine Vx (Zb ?_)
   rcases Zi h43 with ⟨rfl, g43⟩ | ⟨rfl, g43⟩
   ·refine Zq J (Zw (Zb (Zg (Zc (Za 45 J J J (Zd J J (Za 46 J J J (Yn (xs := [.tmp 45]) J J (Clash_p ops (by omega)) by1 ?_))))))))
    refine Za 7 J J J (Zf J J (Vx (Zb (Zg (Zg (Zc (Za 47 J J J (Zd J J (Za 48 J J J (Xx J J J ?_)))))))))); intro c48 h48
    refine Vx (Zb ?_)
    rcases Zi h48 with ⟨rfl, g48⟩ | ⟨rfl, g48⟩
    ·refine Zq J (Zw (Zb (Zg (Zc (Za 57 J J J (Zd J J (Za 58 J J J (Yl J J (Za 59 J J J (Zh J tf_95_2 J (Za 60 J J J (Zp (i := 2) J Yz J J J (Za 61 J J J (op_sub J J J (Uo _ (by omega)) ?_))))))))))))))
     refine Za 62 J J J (Yl J J (Za 63 J J J (Zh J tf_95_2 J (Zt J J (Zr (i := 2) J Ws J J J J J (Uk J) J (Vx (Zb (Zg ?_))))))))
     have HB := Build_c l ops i3 (by omega) ops.length 0 ops.length (Nat.zero_le _) (Nat.le_refl _) (by omega)
     rw [if_neg g43, if_neg g48] at hr
     obtain ⟨⟨wk, ws, wn, ⟨wtk, wts, wtn, wtl⟩, wks, wal, wbs, wp⟩, f2⟩ : ∃ r, buildF l ops ops.length 0 ops.length = r := ⟨_, rfl⟩
     rw [f2] at HB hr
     simp only [Ex.cells, Ty.cells, List.cons_append, List.nil_append] at HB
     have hlen : (ops.map Tok.av).length = ops.length := List.length_map _
     rw [show ((ops.length : Nat) : Int) = (((ops.map Tok.av).length : Nat) : Int) by rw [hlen]] at HB
     refine Zc (Za 64 J J J (Zd J J (Za 65 J J J (Zd J J (Za 66 J J J (Zd J J ?_))))))
     refine Za 67 J J J (Yv J tu_93 J (.own _ _ _) (fun n67 => ?_))
     refine Za 68 J J J (Yn (xs := [.tmp 64, .tmp 65, .const (.int .i64 0), .tmp 67]) J J (HB) by1 ?_)
     refine Zt J J (Zr (cs' := [_, _, _, _, _, _, _, _, _, _, _]) (i := 1) J Wt J J J J J (Uk J) J (Vx (Zb (Ya ?_))))
     subst hr; exact Ym (i := 1) rfl rfl rfl Wj rfl by0 (Ub _ (Ub _ (Ua _ (Vz _)))) ⟨rfl, rfl⟩
    ·refine Zu J (Zg ?_)
     have hcl := clashP_lt g48
     refine Zc (Za 49 J J J (Zd J J (Za 50 J J J (Zd J J (Za 51 J J J (Zd J J ?_))))))
     refine Za 52 J J J (Yd (i := (clashP ops).toNat) J te_93 J (.own _ _ _) J (by first | rfl | omega) (toks_at hcl) ?_)
     refine Za 53 J J J (Zj J Wz J J (Za 54 J J J (Zn J Yz J J (Za 55 J J J (Yi (xs := [.tmp 49, .const (.int .i64 112), .tmp 54]) (i := 2) J J J (fail_c b L q 112 _) by1 ?_)))))
     refine Vx (Zb (Zg (Zc (Za 56 J J J (Yo (ns := []) (xs := []) J Wh J tfl_110 J J J J (Zt J J (Zr (cs' := [_, _, _, _, _, _, _, _, _, _, _]) (i := 1) J Wt J J J J J (Uk J) J (Vx (Zb (Ya ?_))))))))))
     rw [if_neg g43, if_pos g48] at hr; subst hr; exact Ym (i := 1) rfl rfl rfl Wj rfl by0 (Ub _ (Ub _ (Ua _ (Vz _)))) ⟨rfl, rfl⟩
   ·refine Zu J (Zg (Zc (Za 44 J J J (Yo (ns := []) (xs := []) J Wh J tfl_110 J J J J (Zt J J (Zr (cs' := [_, _, _, _, _, _, _, _, _, _, _]) (i := 1) J Wt J J J J J (Uk J) J (Vx (Zb (Ya ?_)))))))))
    rw [if_pos g43] at hr; subst hr; exact Ym (i := 1) rfl rfl rfl Wj rfl by0 (Ub _ (Ub _ (Ua _ (Vz _)))) ⟨rfl, rfl⟩
  ·refine Zu J (Zw (Zb (Zz (Zg ?_))))
   obtain ⟨f, rfl⟩ : ∃ f', f = f' + 1 := ⟨f - 1, by omega⟩
   have hlt := hkn g22
   rw [hgo f g22, htk g22] at hu
   have HT := take_c b L hL q hq1 5 kE
   rw [htk g22] at HT
   have l1 := (Vn i1 hlt).ok i1
   have HO := operand_c b L hL n E HE HA _ l1
   have l2 := (operand_adv HA l1).ok l1
   have b1 : (stepP q).at_ ≤ _ := (operand_adv HA l1).1
   have b2' : (stepP q).at_ = q.at_ + 1 := rfl
   obtain ⟨⟨⟨wk, ws, wn, ⟨wtk, wts, wtn, wtl⟩, wks, wal, wbs, wp⟩, q2⟩, f2⟩ : ∃ r, operandG L E (stepP q) = r := ⟨_, rfl⟩
   simp only [] at hu
   rw [f2] at HO l2 b1 hu
   simp only [Tok.av, Ex.cells, Ty.cells, List.cons_append, List.nil_append] at HT HO l2 b1 hu
   have l3 := l2.1
   refine Zc (Za 23 J J J (Zd J J (Za 24 J J J (Yi (xs := [.tmp 23, .const (.int .i64 5), .const (.string ⟨#[]⟩)]) (i := 2) J J J (HT) by1 ?_))))
   refine Za 6 J J J (Zy (cs' := [_, _, _, _]) J Wq J J ?_); intro b6
   refine Zt J J (Zr (cs' := [_, _, _, _]) (i := 0) J Xk J J J J J (Uk J) J (Vx (Zb (Zg (Zc (Za 25 J J J (Zd J J (Za 26 J J J (Zx (cs' := [_, _, _, _]) (i := 0) J Yt J J J J (Za 27 J J J (Yh (xs := [.tmp 26]) el_93 J J J J J J (Uk J) (Za 28 J J J (Xj (i := 4) el_93 J J J J (.seq _ _) by6 ?_)))))))))))))
   intro u28
   refine Za 4 J J J (Zf J J (Vx (Zb (Zg (Zc (Za 29 J J J (Zd J J (Za 30 J J J (Zh J Xi J (Za 31 J J J (Zp (i := 0) J Xb J J J (Za 32 J J J (Yh (xs := [.tmp 31]) Vv J J J J J J (Uk J) ?_)))))))))))))
   refine Za 33 J J J (Xj (i := 5) Vv J J J J (.seq _ _) by6 ?_)
   intro u33
   refine Za 5 J J J (Zf J J (Vx (Zb (Zc (Za 34 J J J (Zd J J (Za 35 J J J (Zd J J (Za 36 J J J (Yi (xs := [.tmp 35]) (i := 3) J J J (HO) by1 ?_))))))))))
   refine Za 37 J J J (Yh (xs := [.tmp 36]) el_107 J J J J J J (Uk J) (Za 38 J J J (Xj (i := 1) el_107 J J J J (.seq _ _) by6 ?_)))
   intro u38
   refine Za 3 J J J (Zf J J (Vx (Yw (Xc ?_))))
   refine ⟨(q2, f, l ++ [Ex.mk wk ws wn (Ty.mk wtk wts wtn wtl) wks wal wbs wp], ops ++ [Tok.mk qk qt qn qa], u38, u28, u33), ⟨l2, (by show L.length - q2.at_ < f; omega), (by simp [i3]), (by show (ops ++ [Tok.mk qk qt qn qa]).length ≤ q2.at_; rw [List.length_append]; simp; omega), hu⟩, Nat.lt_succ_self f, Uh J (Uj (by rw [Ex.cellss_app']; rfl)) (Uh J (Uj (by rw [List.map_append]; rfl)) (Uh J (Uj (by rw [List.map_append, strs_app]; rfl)) by4)), Ub _ (Ud J)⟩
 ·exact absurd he g12
theorem Exp_c (b : Nat) (L : List Tok) (hL : L.length ≤ 100000) : ∀ n, ExC b L n (expF L n)
 | 0, p, k => Exp_err b L p (fun e => by have := k.2.2.2 e; omega)
 | n + 1, p, k => by
  by_cases he : p.e = 0
  ·exact Exp_ok b L hL n (expF L n) (Exp_c b L hL n) (expF_adv n) p k he _ (by rw [expF, if_neg (by rw [he]; simp)])
  ·rw [expF, if_pos he]; exact Exp_err b L p he
theorem expP_c (b : Nat) (L : List Tok) (hL : L.length ≤ 100000) : ExC b L 302 (expP L) := Exp_c b L hL 302
theorem bindP_c (b : Nat) (L : List Tok) (hL : L.length ≤ 100000) (p : PS) (k : POk L 302 p) : MCall Tryz.prog 56 [.ptr b 0] (.loc b (psC L p)) (.agg (bindP L p).1.cells) (.loc b (psC L (bindP L p).2)) := bind_c b L hL 302 (expP L) (expP_c b L hL) p k
theorem paramsL_go {L : List Tok} {f : Nat} {p : PS} {acc : List ByteArray} (h : (nxt L p).k = 1) : paramsL L (f + 1) p acc = paramsL L f (takeP L p 1 kE).2 (acc ++ [(takeP L p 1 kE).1.t]) := by rw [paramsL, if_pos h]
theorem paramsL_end {L : List Tok} {f : Nat} {p : PS} {acc : List ByteArray} (h : ¬ (nxt L p).k = 1) : paramsL L f p acc = (acc, p) := by
 cases f with
 | zero => rfl
 | succ f => rw [paramsL, if_neg h]
theorem consL_err {L : List Tok} {f : Nat} {p : PS} {acc : List Cn} (h : p.e ≠ 0) : consL L f p acc = (acc, p) := by
 cases f with
 | zero => rfl
 | succ f => rw [consL, if_pos h]
abbrev zDa : List AV := [.val (.string kE), .val (.slice none 0 0), .val (.slice none 0 0), .val (.slice none 0 0), .val (.int .i64 0)]
set_option maxHeartbeats 4000000 in
set_option maxRecDepth 100000 in
theorem data_c (b : Nat) (L : List Tok) (hL : L.length ≤ 100000) (p : PS) (k : POk L 302 p) : MCall Tryz.prog 52 [.ptr b 0] (.loc b (psC L p)) (.agg (dataP L p).1.cells) (.loc b (psC L (dataP L p).2)) := by
 have H1 := take_c b L hL p k.1 2 kE
 have k1 := (Yp (kind := 2) (s := kE) (by decide) k).ok k
 obtain ⟨r, hr⟩ : ∃ r, dataP L p = r := ⟨_, rfl⟩
 rw [hr]
 unfold dataP at hr
 simp only [] at hr
 obtain ⟨⟨⟨tk, tt, tn, ta⟩, p1⟩, e1⟩ : ∃ r, takeP L p 2 kE = r := ⟨_, rfl⟩
 rw [e1] at H1 k1 hr
 simp only [Tok.av] at H1 k1 hr
 have k2 := (paramsL_adv (L.length + 1) p1 [] k1).ok k1
 obtain ⟨⟨ps, p2⟩, e2⟩ : ∃ r, paramsL L (L.length + 1) p1 [] = r := ⟨_, rfl⟩
 rw [e2] at k2 hr
 simp only [] at k2 hr
 have H3 := take_c b L hL p2 k2.1 7 kEq
 have k3 := (Yp (kind := 7) (s := kEq) (by decide) k2).ok k2
 obtain ⟨⟨u3, p3⟩, e3⟩ : ∃ r, takeP L p2 7 kEq = r := ⟨_, rfl⟩
 rw [e3] at H3 k3 hr
 simp only [] at H3 k3 hr
 have k4 := (consL_adv (L.length + 1) p3 [] k3).ok k3
 obtain ⟨⟨cl, p4⟩, e4⟩ : ∃ r, consL L (L.length + 1) p3 [] = r := ⟨_, rfl⟩
 rw [e4] at k4 hr
 simp only [] at k4 hr
 unfold derivP at hr
 refine Zv Tryz.func52 J (by kernel_rfl) J (Uk J) ?_
 refine Ye (Zg (Zc (Za 2 J J J (Zy (cs' := [_, _, _, _, _]) J tz_102 J J ?_)))); intro b2
 refine Vx (Zb (Zg (Zc (Za 8 J J J (Zd J J (Za 9 J J J (Yi (xs := [.tmp 8, .const (.int .i64 2), .const (.string ⟨#[]⟩)]) (i := 1) J J J (H1) by1 ?_)))))))
 refine Za 3 J J J (Zy (cs' := [_, _, _, _]) J Wq J J ?_); intro b3
 refine Zt J J (Zr (cs' := [_, _, _, _]) (i := 0) J Xk J J J J J (Uk J) J (Vx (Zb (Zg (Zc (Za 10 J J J (Zh J Xi J (Za 11 J J J (Zp (i := 0) J Xb J J J (Za 12 J J J (Zh J Wz J (Za 13 J J J (Zp (i := 0) J Yz J J J ?_)))))))))))))
 refine Za 14 J J J (Yo (ns := [0, 4]) (xs := [.tmp 11, .tmp 13]) J tz_102 J tfl_102 J J J J (Za 4 J J J (Zy (cs' := [_, _, _, _, _]) J tz_102 J J ?_))); intro b4
 refine Zt J J (Zr (cs' := [_, _, _, _, _]) (i := 0) J ts_102 J J J J J (Uk J) J (Vx (Zb (Zg (Zz (Wg 9 1 ?_))))))
 apply Wm [1, 3, 8, 9, 10, 11, 12, 13, 14, 15, 16, 17, 18, 19, 20, 21, 22, 23, 24, 25, 26, 28, 64, 69] (σ := PS × Nat × List ByteArray × Value) (fun zz => match zz with | (q, f, acc, u) => []) (fun zz => match zz with | (q, f, acc, u) => [.loc b4 [.val (.string tt), .own u 1 (strs acc), .val (.slice none 0 0), .val (.slice none 0 0), .val (.int .i64 ta)], .loc b3 (Tok.mk tk tt tn ta).av, .loc b2 zDa, .loc b (psC L q), .own 9 1 u]) (fun zz => match zz with | (q, f, acc, u) => POk L 302 q ∧ L.length - q.at_ < f ∧ acc.length ≤ q.at_ ∧ paramsL L f q acc = (ps, p2)) (fun zz => match zz with | (q, f, acc, u) => f) ((p1, L.length + 1, [], .slice none 0 0))
 ·repeat' (first | exact Un | apply Ul rfl | apply Um rfl)
 ·exact ⟨k1, by omega, Nat.zero_le _, e2⟩
 ·exact by4
 ·exact (Uc _ (Ug (Ue _) (Ug (Le.nilOwn 1) (Uf _))) (Ua _ (Ud J)))
 rintro ⟨q, f, acc, u⟩ hI
 try dsimp only [List.cons_append, List.nil_append] at hI ⊢
 obtain ⟨i1, i2, i3, hu⟩ := hI
 have hq1 := i1.1
 have hle : (strs acc).length ≤ 200000 := by rw [Xw]; omega
 have HN := next_c b L q
 have hkn : (nxt L q).k = 1 → q.at_ < L.length := fun e => (Vw (by omega)).2
 have hgo := fun f => paramsL_go (L := L) (f := f) (p := q) (acc := acc)
 have hend := paramsL_end (L := L) (f := f) (p := q) (acc := acc)
 have htk := fun h : (nxt L q).k = 1 => take_k (s := kE) h (by decide) (by decide)
 obtain ⟨⟨qk, qt, qn, qa⟩, hqt⟩ : ∃ t, nxt L q = t := ⟨_, rfl⟩
 rw [hqt] at HN hkn hgo hend htk
 simp only [Tok.av] at HN hkn hgo hend htk
 refine Zg (Zg (Zc (Za 15 J J J (Zd J J (Za 16 J J J (Ww (xs := [.tmp 15]) [3] J J J (HN) by1 ?_))))))
 refine Za 17 J J J (Vd (ft := 3) (fo := 0) J (by kernel_rfl) Yz J J ?_)
 refine Za 18 J J J (Yk J J J ?_); intro c18 h18
 refine Vx (Zb ?_)
 rcases Zi h18 with ⟨rfl, g18⟩ | ⟨rfl, g18⟩
 ·refine Zq J (Xd (Xf (Xz (Xe (Zb (Zg ?_))))))
  rw [hend g18] at hu
  simp only [Prod.mk.injEq] at hu
  obtain ⟨rfl, rfl⟩ := hu
  refine Zc (Za 27 J J J (Zd J J (Za 28 J J J (Yi (xs := [.tmp 27, .const (.int .i64 7), .const (.string ⟨#[61]⟩)]) (i := 3) J J J (H3) by1 ?_))))
  refine Vx (Zb (Zg (Zc (Za 5 J J J (Zf J J (Vx (Zb (Zg (Zz (Wg 140 3 ?_))))))))))
  apply Wm [1, 3, 5, 6, 7, 8, 9, 10, 11, 12, 13, 14, 15, 16, 17, 18, 19, 20, 21, 22, 23, 24, 25, 26, 27, 28, 29, 30, 31, 32, 33, 34, 35, 36, 37, 38, 39, 40, 41, 42, 43, 44, 45, 46, 47, 48, 49, 50, 51, 52, 53, 54, 55, 56, 57, 58, 59, 60, 64, 69] (σ := PS × Nat × List Cn × Value × Bool) (fun zz => match zz with | (q, f, cs, w, mo) => [(5, .val (.bool mo))]) (fun zz => match zz with | (q, f, cs, w, mo) => [.loc b4 [.val (.string tt), .seq 1 (strs acc), .own w 3 (Cn.cellss cs), .val (.slice none 0 0), .val (.int .i64 ta)], .loc b3 (Tok.mk tk tt tn ta).av, .loc b2 zDa, .loc b (psC L q), .own 140 3 w]) (fun zz => match zz with | (q, f, cs, w, mo) => POk L 302 q ∧ L.length - q.at_ < f ∧ (mo = true → cs.length ≤ q.at_) ∧ (if mo = true then consL L f q cs else (cs, q)) = (cl, p4)) (fun zz => match zz with | (q, f, cs, w, mo) => 2 * f + (if mo = true then 1 else 0)) ((p3, L.length + 1, [], .slice none 0 0, true))
  ·repeat' (first | exact Un | apply Ul rfl | apply Um rfl)
  ·exact ⟨k3, by omega, fun _ => Nat.zero_le _, e4⟩
  ·exact by4
  ·exact (Uc _ (Ug (Ue _) (Ug (Le.own_seq J) (Ug (Le.nilOwn 3) (Uf _)))) (Ua _ (Ua _ (Ua _ (Ub _ (Vy _))))))
  rintro ⟨q, f, cs, w, mo⟩ hI
  try dsimp only [List.cons_append, List.nil_append] at hI ⊢
  obtain ⟨i1, i2, i3, hu⟩ := hI
  have hq1 := i1.1
  refine Zg (Zg (Xm 36 (mo = true ∧ q.e = 0) ?_ _ _ J ?_))
  ·skip
   refine Za 29 J J J (Zd J J (Za 30 J J J (Zd J J ?_)))
   have h30 : (mo = true ↔ mo = true) := Iff.rfl
   rcases Zi h30 with ⟨rfl, g30⟩ | ⟨rfl, g30⟩
   ·skip
    refine Zl 31 J J J J J (Zl 32 J J J J J (Zl 33 J J J J J (Zl 34 J J J J J (Zl 35 J J J J J (Za 36 J J J (Zm J J J ?_))))))
    refine Vx (Ui J ?_ by5 by3)
    simp_all; done
   ·skip
    refine Zo 31 J J J J J (Zd J J (Zo 32 J J J J J (Yl J J (Zo 33 J J J J J (Zh J Vs J (Zo 34 J J J J J (Zp (i := 3) J Yz J J J (Zo 35 J J J J J (Yk J J J ?_))))))))); intro c35 h35
    refine Za 36 J J J (Zm J J J (Vx (Ui J ?_ by5 by3)))
    simp_all; done
  intro c36 h36
  refine Zb ?_
  rcases Zi h36 with ⟨rfl, g36⟩ | ⟨rfl, g36⟩
  ·refine Zq J (Xd (Xf (Xz (Xe (Zb (Zg (Zg ?_)))))))
   have hu2 : (cs, q) = (cl, p4) := by
    cases mo with
    | false => exact hu
    | true => rw [if_pos rfl, consL_err (fun e => g36 ⟨rfl, e⟩)] at hu; exact hu
   simp only [Prod.mk.injEq] at hu2
   obtain ⟨rfl, rfl⟩ := hu2
   refine Zc (Za 61 J J J (Zd J J (Za 62 J J J (op_mayc (xs := [.tmp 61, .const (.string ⟨#[100, 101, 114, 105, 118, 105, 110, 103]⟩)]) (i := 3) J J J (may_c b L hL q kDeriv) by1 ?_ ?_))))
   ·intro g62
    refine Vx (Zb (Zu J (Zg ?_)))
    have kA := (Xr k4 g62).ok k4
    have HD1 := take_c b L hL (stepP q) kA.1 7 kLP
    have kB := (Yp (kind := 7) (s := kLP) (by decide) kA).ok kA
    have HD2 := uppers_c b L hL 302 _ kB
    have kC := (uppers_adv kB).ok kB
    have HD3 := take_c b L hL _ kC.1 7 kRP
    rw [if_pos g62] at hr
    refine Zc (Za 63 J J J (Zd J J (Za 64 J J J (Yi (xs := [.tmp 63, .const (.int .i64 7), .const (.string ⟨#[40]⟩)]) (i := 3) J J J (HD1) by1 ?_))))
    refine Vx (Zb (Zg (Zc (Za 65 J J J (Zd J J (Za 66 J J J (Yi (xs := [.tmp 65]) (i := 3) J J J (HD2) by1 ?_)))))))
    refine Za 67 J J J (Zh J tf_102_3 J (Zt J J (Zr (cs' := [_, _, _, _, _]) (i := 0) J ts_68 J J J J J (Uk J) J (Vx (Zb (Zc (Za 68 J J J (Zd J J (Za 69 J J J (Yi (xs := [.tmp 68, .const (.int .i64 7), .const (.string ⟨#[41]⟩)]) (i := 3) J J J (HD3) by1 ?_))))))))))
    refine Vx (Zb (Zg (Zc (Za 70 J J J (Zx (cs' := [_, _, _, _, _]) (i := 0) J ta_102 J J J J (Zt J J (Zr (cs' := [_, _, _, _, _]) (i := 2) J ts_102 J J J J J (Uk J) J (Vx (Zb (Ya ?_))))))))))
    first
    | (subst hr; exact Ym (i := 2) rfl rfl rfl ta_102 rfl (Le.agg (Ug (Ue _) (Ug (Ue _) (Ug (Le.own_seq rfl) (Ug (Ue _) (Uf _)))))) (Ub _ (Ub _ (Ub _ (Ua _ (Vz _))))) ⟨rfl, rfl⟩)
    | (rw [if_neg g62] at hr; subst hr; exact Ym (i := 2) rfl rfl rfl ta_102 rfl (Le.agg (Ug (Ue _) (Ug (Ue _) (Ug (Le.own_seq rfl) (Ug (Le.nil _) (Uf _)))))) (Ub _ (Ub _ (Ub _ (Ua _ (Vz _))))) ⟨rfl, rfl⟩)
   ·intro g62
    refine Vx (Zb (Zq J (Zw (Zb (Zg (Zc (Za 70 J J J (Zx (cs' := [_, _, _, _, _]) (i := 0) J ta_102 J J J J (Zt J J (Zr (cs' := [_, _, _, _, _]) (i := 2) J ts_102 J J J J J (Uk J) J ?_))))))))))
    refine Vx (Zb (Ya ?_))
    first
    | (subst hr; exact Ym (i := 2) rfl rfl rfl ta_102 rfl (Le.agg (Ug (Ue _) (Ug (Ue _) (Ug (Le.own_seq rfl) (Ug (Ue _) (Uf _)))))) (Ub _ (Ub _ (Ub _ (Ua _ (Vz _))))) ⟨rfl, rfl⟩)
    | (rw [if_neg g62] at hr; subst hr; exact Ym (i := 2) rfl rfl rfl ta_102 rfl (Le.agg (Ug (Ue _) (Ug (Ue _) (Ug (Le.own_seq rfl) (Ug (Le.nil _) (Uf _)))))) (Ub _ (Ub _ (Ub _ (Ua _ (Vz _))))) ⟨rfl, rfl⟩)
  ·refine Zu J (Zw (Zb (Zz (Zg ?_))))
   obtain ⟨rfl, hq0⟩ := g36
   have i3 := i3 rfl
   have hle : (Cn.cellss cs).length ≤ 200000 := by rw [Cn.cellss_len]; omega
   rw [if_pos rfl] at hu
   obtain ⟨f, rfl⟩ : ∃ f', f = f' + 1 := ⟨f - 1, by omega⟩
   rw [consL, if_neg (by rw [hq0]; simp)] at hu
   have HP := take_c b L hL q i1.1 2 kE
   have l1 := (Yp (kind := 2) (s := kE) (by decide) i1).ok i1
   have b1 := (Yp (L := L) (kind := 2) (s := kE) (by decide) i1).1
   obtain ⟨z, hz⟩ : ∃ z, conP L q = z := ⟨_, rfl⟩
   rw [hz] at hu
   unfold conP at hz
   simp only [] at hz
   obtain ⟨⟨⟨ck, ct, cn, ca⟩, q1⟩, f1⟩ : ∃ r, takeP L q 2 kE = r := ⟨_, rfl⟩
   rw [f1] at HP hz l1 b1
   simp only [Tok.av] at HP hz l1 b1
   have l2 := (typesL_adv typeP_adv' (L.length + 1) q1 [] l1).ok l1
   have b2' := (typesL_adv typeP_adv' (L.length + 1) q1 [] l1).1
   obtain ⟨⟨tys, q2⟩, f2⟩ : ∃ r, typesL L (typeP L) (L.length + 1) q1 [] = r := ⟨_, rfl⟩
   rw [f2] at l2 b2' hz
   simp only [] at l2 b2' hz
   subst hz
   simp only [] at hu
   have l2a := l2.1
   refine Zc (Za 37 J J J (Zd J J (Za 38 J J J (Yi (xs := [.tmp 37, .const (.int .i64 2), .const (.string ⟨#[]⟩)]) (i := 3) J J J (HP) by1 ?_))))
   refine Za 6 J J J (Zy (cs' := [_, _, _, _]) J Wq J J ?_); intro b6
   refine Zt J J (Zr (cs' := [_, _, _, _]) (i := 0) J Xk J J J J J (Uk J) J (Vx (Zb (Zg (Zc (Za 39 J J J (Zh J Xi J (Za 40 J J J (Zp (i := 0) J Xb J J J (Za 41 J J J (Zh J Wz J (Za 42 J J J (Zp (i := 0) J Yz J J J ?_)))))))))))))
   refine Za 43 J J J (Yo (ns := [0, 2]) (xs := [.tmp 40, .tmp 42]) J tz_140 J tfl_140 J J J J (Za 7 J J J (Zy (cs' := [_, _, _]) J tz_140 J J ?_))); intro b7
   refine Zt J J (Zr (cs' := [_, _, _]) (i := 0) J ts_140 J J J J J (Uk J) J (Vx (Zb (Zg (Zz (Wg 25 4 ?_))))))
   apply Wm [1, 3, 8, 9, 10, 11, 12, 13, 14, 15, 16, 17, 18, 19, 20, 21, 22, 23, 24, 25, 26, 27, 28, 44, 45, 46, 47, 48, 49, 50, 51, 52, 64, 69] (σ := PS × Nat × List Ty × Value) (fun zz => match zz with | (s, g, ac, v) => []) (fun zz => match zz with | (s, g, ac, v) => [.loc b7 [.val (.string ct), .own v 4 (Ty.cellss ac), .val (.int .i64 ca)], .loc b6 (Tok.mk ck ct cn ca).av, .loc b4 [.val (.string tt), .seq 1 (strs acc), .own w 3 (Cn.cellss cs), .val (.slice none 0 0), .val (.int .i64 ta)], .loc b3 (Tok.mk tk tt tn ta).av, .loc b2 zDa, .loc b (psC L s), .own 140 3 w, .own 25 4 v]) (fun zz => match zz with | (s, g, ac, v) => POk L 302 s ∧ L.length - s.at_ < g ∧ ac.length ≤ s.at_ ∧ typesL L (typeP L) g s ac = (tys, q2)) (fun zz => match zz with | (s, g, ac, v) => g) ((q1, L.length + 1, [], .slice none 0 0))
   ·repeat' (first | exact Un | apply Ul rfl | apply Um rfl)
   ·exact ⟨l1, by omega, Nat.zero_le _, f2⟩
   ·exact by4
   ·exact (Uc _ (Ug (Ue _) (Ug (Le.nilOwn 4) (Uf _))) (Ua _ (Ud J)))
   rintro ⟨s, g, ac, v⟩ hI
   try dsimp only [List.cons_append, List.nil_append] at hI ⊢
   obtain ⟨j1, j2, j3, hv⟩ := hI
   have hs1 := j1.1
   have hlt : (Ty.cellss ac).length ≤ 200000 := by rw [Ty.cellss_len]; omega
   refine Zg (Zg (Zc (Za 44 J J J (Zd J J (Za 45 J J J (op_callkb (xs := [.tmp 44, .const (.int .i64 0)]) [5] J J J (starts_c b L s 0) by1 ?_)))))); intro c45 h45
   refine Vx (Zb ?_)
   rcases Zi h45 with ⟨rfl, g45⟩ | ⟨rfl, g45⟩
   ·refine Zq J (Xd (Xf (Xz (Xe (Zb (Zg ?_))))))
    rw [typesL_end g45] at hv
    simp only [Prod.mk.injEq] at hv
    obtain ⟨rfl, rfl⟩ := hv
    refine c_le (SLe.refl _) (Uc _ (Ug (Ue _) (Ug (Le.own_seq J) (Uf _))) (Vy _)) (Zc (Za 53 J J J (Zh J tf_102_2 J (Za 54 J J J (Zp (i := 2) J ta_100 J J J (Za 55 J J J (Zx (cs' := [_, _, _]) (i := 0) J ta_140 J J J J (Za 56 J J J (Yh (xs := [.tmp 55]) el_100 J J J J J J (Uk J) ?_)))))))))
    refine Za 57 J J J (Xj (i := 6) el_100 J J J J (.seq _ _) by6 ?_)
    intro u57
    refine Za 58 J J J (Zh J tf_102_2 J (Zt J J (Zr (cs' := [_, _, _, _, _]) (i := 2) J ts_100 J J J J J (Uk J) J (Vx (Zb (Zc (Za 59 J J J (Zd J J (Za 60 J J J (op_mayc (xs := [.tmp 59, .const (.string ⟨#[124]⟩)]) (i := 5) J J J (may_c b L hL s kBar) by1 ?_ ?_))))))))))
    ·intro g60
     refine Za 5 J J J (Zf J J (Vx (Yw (Xc ?_))))
     first
     | (rw [if_pos g60] at hu; have l4 := (Xr l2 g60).ok l2; have l5 := (is_lt g60).2; exact ⟨(stepP s, f, cs ++ [Cn.mk ct ac ca], u57, true), ⟨l4, (by show L.length - (s.at_ + 1) < f; omega), (fun _ => by show (cs ++ _).length ≤ s.at_ + 1; rw [List.length_append]; simp; omega), hu⟩, (by show 2 * f + 1 < 2 * (f + 1) + 1; omega), Uh rfl (Ue _) by4, Ub _ (Ub _ (Uc _ (Ug (Ue _) (Ug (Ue _) (Ug (Uj (by simp [Cn.cellss]; rfl)) (Uf _)))) (Ua _ (Ua _ (Ua _ (Ua _ (Ub _ (Vy _))))))))⟩)
     | (rw [if_neg g60] at hu; exact ⟨(s, f + 1, cs ++ [Cn.mk ct ac ca], u57, false), ⟨l2, (by show L.length - s.at_ < f + 1; omega), (fun h => by cases h), hu⟩, (by show 2 * (f + 1) + 0 < 2 * (f + 1) + 1; omega), Uh rfl (Ue _) by4, Ub _ (Ub _ (Uc _ (Ug (Ue _) (Ug (Ue _) (Ug (Uj (by simp [Cn.cellss]; rfl)) (Uf _)))) (Ua _ (Ua _ (Ua _ (Ua _ (Ub _ (Vy _))))))))⟩)
    ·intro g60
     refine Za 5 J J J (Zf J J (Vx (Yw (Xc ?_))))
     first
     | (rw [if_pos g60] at hu; have l4 := (Xr l2 g60).ok l2; have l5 := (is_lt g60).2; exact ⟨(stepP s, f, cs ++ [Cn.mk ct ac ca], u57, true), ⟨l4, (by show L.length - (s.at_ + 1) < f; omega), (fun _ => by show (cs ++ _).length ≤ s.at_ + 1; rw [List.length_append]; simp; omega), hu⟩, (by show 2 * f + 1 < 2 * (f + 1) + 1; omega), Uh rfl (Ue _) by4, Ub _ (Ub _ (Uc _ (Ug (Ue _) (Ug (Ue _) (Ug (Uj (by simp [Cn.cellss]; rfl)) (Uf _)))) (Ua _ (Ua _ (Ua _ (Ua _ (Ub _ (Vy _))))))))⟩)
     | (rw [if_neg g60] at hu; exact ⟨(s, f + 1, cs ++ [Cn.mk ct ac ca], u57, false), ⟨l2, (by show L.length - s.at_ < f + 1; omega), (fun h => by cases h), hu⟩, (by show 2 * (f + 1) + 0 < 2 * (f + 1) + 1; omega), Uh rfl (Ue _) by4, Ub _ (Ub _ (Uc _ (Ug (Ue _) (Ug (Ue _) (Ug (Uj (by simp [Cn.cellss]; rfl)) (Uf _)))) (Ua _ (Ua _ (Ua _ (Ua _ (Ub _ (Vy _))))))))⟩)
   ·refine Zu J (Zw (Zb (Zz ?_)))
    obtain ⟨g, rfl⟩ : ∃ f', g = f' + 1 := ⟨g - 1, by omega⟩
    rw [typesL_go g45] at hv
    have d1 := atype_lt typeP_adv' j1 g45
    have d2 := atype_adv typeP_adv' j1
    have m2 := d2.ok j1
    have HA2 := atype_c b L hL 302 (typeP L) (Type_c b L hL 302) typeP_adv' s j1
    obtain ⟨⟨⟨yk, ys, yn, yl⟩, s2⟩, e2'⟩ : ∃ r, atypeG L (typeP L) s = r := ⟨_, rfl⟩
    rw [e2'] at HA2 hv m2 d1
    simp only [Ty.cells] at HA2
    simp only [] at d1 m2 hv
    have m3 := m2.1
    refine Wc [0, 1, 2, 3, 4, 5, 6, 7] [3, 5, 7] [[], [0], [], [2], [2, 3], [0, 1, 2, 3, 4], [0, 1, 2, 3, 4, 5], [0, 1, 2, 3, 4, 5, 6]] Wi J (Yc 46 (none) (i := 0) J J J J J (Zh J tf_140_1 J ⟨J, J⟩) ?_)
    refine Yc 47 (some 0) (i := 1) J J J J J (Zp (i := 0) J Wr J J J ⟨J, J⟩) ?_
    refine Yc 48 (none) (i := 2) J J J J J (Zd J J ⟨J, J⟩) ?_
    refine Xo 5 (i := 3) J J J J J (Yi (xs := [.tmp 48]) (i := 0) J J J (HA2) by1 ⟨_, J, ?_⟩)
    refine Yc 50 (none) (i := 4) J J J J J (Yh (xs := [.tmp 49]) el_23 J J J J J J (Uk J) ⟨J, J⟩) ?_
    refine Xo 7 (i := 5) J J J J J (Xj (i := 0) el_23 J J J J (.seq _ _) by6 (fun u51 => ⟨_, J, ?_⟩))
    refine Yc 52 (none) (i := 6) J J J J J (Zh J tf_140_1 J ⟨J, J⟩) ?_
    refine Xo 0 (i := 7) J J J J J (Zr (cs' := [_, _, _]) (i := 0) J ts_23 J J J J J (Uk J) J ⟨_, J, ?_⟩)
    show AGo _ _ _ _ _ _ _
    refine Yw (Xc ?_)
    refine ⟨(s2, g, ac ++ [Ty.mk yk ys yn yl], u51), ⟨m2, (by show L.length - s2.at_ < g; omega), (by show (ac ++ [Ty.mk yk ys yn yl]).length ≤ s2.at_; rw [List.length_append]; simp; omega), hv⟩, Nat.lt_succ_self g, by4, (Uc _ (Ug (Ue _) (Ug (Uj (by rw [Ty.cellss_app]; rfl)) (Uf _))) (Ua _ (Ua _ (Ua _ (Ua _ (Ud J))))))⟩
 ·refine Zu J (Zw (Zb (Zz ?_)))
  obtain ⟨f, rfl⟩ : ∃ f', f = f' + 1 := ⟨f - 1, by omega⟩
  have hlt := hkn g18
  rw [hgo f g18, htk g18] at hu
  have HT := take_c b L hL q hq1 1 kE
  rw [htk g18] at HT
  simp only [Tok.av] at HT
  have l1 := (Vn i1 hlt).ok i1
  refine Wc [0, 1, 2, 3, 4, 5, 6, 7, 8] [3, 6, 8] [[], [0], [], [2], [2, 3], [2, 3, 4], [0, 1, 2, 3, 4, 5], [0, 1, 2, 3, 4, 5, 6], [0, 1, 2, 3, 4, 5, 6, 7]] Wi J (Yc 19 (none) (i := 0) J J J J J (Zh J tf_102_1 J ⟨J, J⟩) ?_)
  refine Yc 20 (some 0) (i := 1) J J J J J (Zp (i := 0) J ta_68 J J J ⟨J, J⟩) ?_
  refine Yc 21 (none) (i := 2) J J J J J (Zd J J ⟨J, J⟩) ?_
  refine Xo 3 (i := 3) J J J J J (Yi (xs := [.tmp 21, .const (.int .i64 1), .const (.string ⟨#[]⟩)]) (i := 0) J J J (HT) by1 ⟨_, J, ?_⟩)
  refine Yc 23 (none) (i := 4) J J J J J (Vd (ft := 9) (fo := 1) J (by kernel_rfl) Xb J J ⟨J, J⟩) ?_
  refine Yc 24 (none) (i := 5) J J J J J (Yh (xs := [.tmp 23]) Vv J J J J J J (Uk J) ⟨J, J⟩) ?_
  refine Xo 4 (i := 6) J J J J J (Xj (i := 0) Vv J J J J (.seq _ _) by6 (fun u25 => ⟨_, J, ?_⟩))
  refine Yc 26 (none) (i := 7) J J J J J (Zh J tf_102_1 J ⟨J, J⟩) ?_
  refine Xo 0 (i := 8) J J J J J (Zr (cs' := [_, _, _, _, _]) (i := 0) J ts_68 J J J J J (Uk J) J ⟨_, J, ?_⟩)
  show AGo _ _ _ _ _ _ _
  refine Yw (Xc ?_)
  refine ⟨(stepP q, f, acc ++ [qt], u25), ⟨l1, (by show L.length - (q.at_ + 1) < f; omega), (by show (acc ++ [qt]).length ≤ q.at_ + 1; rw [List.length_append]; simp; omega), hu⟩, Nat.lt_succ_self f, by4, (Uc _ (Ug (Ue _) (Ug (Uj (by rw [strs_app]; rfl)) (Uf _))) (Ua _ (Ua _ (Ud J))))⟩
theorem clsL_err {L : List Tok} {f : Nat} {p : PS} {ms : List Me} {ds : List Bi} (h : p.e ≠ 0) : clsL L f p ms ds = ((ms, ds), p) := by
 cases f with
 | zero => rfl
 | succ f => rw [clsL, if_pos h]
theorem clsL_end {L : List Tok} {f : Nat} {p : PS} {ms : List Me} {ds : List Bi} (h : p.e = 0) (h2 : isP L p kEnd = true) : clsL L (f + 1) p ms ds = ((ms, ds), stepP p) := by rw [clsL, if_neg (by rw [h]; simp), if_pos h2]
theorem Me.cellss_app' (a b : List Me) : Me.cellss (a ++ b) = Me.cellss a ++ Me.cellss b := by simp [Me.cellss]
abbrev zCl : List AV := [.val (.string kE), .val (.string kE), .val (.slice none 0 0), .val (.slice none 0 0), .val (.slice none 0 0), .val (.int .i64 0)]
set_option maxHeartbeats 4000000 in
set_option maxRecDepth 100000 in
theorem class_b (b : Nat) (L : List Tok) (hL : L.length ≤ 100000) (p : PS) (k : POk L 302 p) (c17 : Bool) (h3 : isP L (takeP L (takeP L p 2 kE).2 1 kE).2 kFrom = c17) : MCall Tryz.prog 53 [.ptr b 0] (.loc b (psC L p)) (.agg (classP L p).1.cells) (.loc b (psC L (classP L p).2)) := by
 have H1 := take_c b L hL p k.1 2 kE
 have k1 := (Yp (kind := 2) (s := kE) (by decide) k).ok k
 obtain ⟨r, hr⟩ : ∃ r, classP L p = r := ⟨_, rfl⟩
 rw [hr]
 unfold classP at hr
 simp only [] at hr
 obtain ⟨⟨⟨tk, tt, tn, ta⟩, p1⟩, e1⟩ : ∃ r, takeP L p 2 kE = r := ⟨_, rfl⟩
 rw [e1] at H1 k1 hr h3
 simp only [Tok.av] at H1 k1 hr h3
 have H2 := take_c b L hL p1 k1.1 1 kE
 have k2 := (Yp (kind := 1) (s := kE) (by decide) k1).ok k1
 obtain ⟨⟨⟨vk, vt, vn, va⟩, p2⟩, e2⟩ : ∃ r, takeP L p1 1 kE = r := ⟨_, rfl⟩
 rw [e2] at H2 k2 hr h3
 simp only [Tok.av] at H2 k2 hr h3
 have HM := may_eq (b := b) hL h3
 have k3 := (supers_adv k2).ok k2
 obtain ⟨⟨sl, p3⟩, e3⟩ : ∃ r, supersP L p2 = r := ⟨_, rfl⟩
 rw [e3] at k3 hr
 simp only [] at k3 hr
 have e3 : (if c17 = true then uppersP L (stepP p2) else ([], p2)) = (sl, p3) := by rw [← e3, supersP, h3]
 have H4 := take_c b L hL p3 k3.1 6 kWhere
 have k4 := (Yp (kind := 6) (s := kWhere) (by decide) k3).ok k3
 obtain ⟨⟨u4, p4⟩, e4⟩ : ∃ r, takeP L p3 6 kWhere = r := ⟨_, rfl⟩
 rw [e4] at H4 k4 hr
 simp only [] at H4 k4 hr
 obtain ⟨⟨⟨ml, dl⟩, p5⟩, e5⟩ : ∃ r, clsL L (L.length + 1) p4 [] [] = r := ⟨_, rfl⟩
 rw [e5] at hr
 simp only [] at hr
 refine Zv Tryz.func53 J (by kernel_rfl) J (Uk J) ?_
 refine Ye (Zg (Zc (Za 2 J J J (Zy (cs' := [_, _, _, _, _, _]) J tz_77 J J ?_)))); intro b2
 refine Vx (Zb (Zg (Zc (Za 6 J J J (Zd J J (Za 7 J J J (Yi (xs := [.tmp 6, .const (.int .i64 2), .const (.string ⟨#[]⟩)]) (i := 1) J J J (H1) by1 ?_)))))))
 refine Za 3 J J J (Zy (cs' := [_, _, _, _]) J Wq J J ?_); intro b3
 refine Zt J J (Zr (cs' := [_, _, _, _]) (i := 0) J Xk J J J J J (Uk J) J (Vx (Zb (Zg (c_drawnEF [0, 1, 2, 5, 6, 3, 4, 7, 8, 9] [3, 8, 9] [[], [0], [], [2], [2, 3], [], [5], [0, 1, 2, 3, 4, 5, 6], [], [0, 1, 2, 3, 4, 5, 6, 7, 8]] 8 (cs0 := [_, _, _, _, _, _]) Wi J J J J tz_77 J J (EOpsF.d 8 (none) (i := 0) J J J J J J (Zh J Xi J ⟨J, J⟩) ?_))))))
 refine EOpsF.d 9 (some 0) (i := 1) J J J J J J (Zp (i := 0) J Xb J J J ⟨J, J⟩) ?_
 refine EOpsF.d 10 (none) (i := 2) J J J J J J (Zd J J ⟨J, J⟩) ?_
 refine EOpsF.d 13 (none) (i := 5) J J J J J J (Zh J Wz J ⟨J, J⟩) ?_
 refine EOpsF.d 14 (some 0) (i := 6) J J J J J J (Zp (i := 0) J Yz J J J ⟨J, J⟩) ?_
 refine EOpsF.w 2 (i := 3) J J J J J J (Yi (xs := [.tmp 10, .const (.int .i64 1), .const (.string ⟨#[]⟩)]) (i := 0) J J J (H2) by1 ⟨_, J, ?_⟩)
 refine EOpsF.d 12 (none) (i := 4) J J J J J J (Vd (ft := 9) (fo := 1) J (by kernel_rfl) Xb J J ⟨J, J⟩) ?_
 refine EOpsF.d 15 (none) (i := 7) J J J J J J (Yo (ns := [0, 1, 5]) (xs := [.tmp 9, .tmp 12, .tmp 14]) J tz_77 J tfl_77 J J J J ⟨J, J⟩) ?_
 refine EOpsF.free (i := 8) J J J ?_; intro b4
 refine EOpsF.w 3 (i := 9) J J J J J J (Zr (cs' := [_, _, _, _, _, _]) (i := 0) J ts_77 J J J J J (Uk J) J ⟨_, J, ?_⟩)
 show AGo _ _ _ _ _ _ _
 refine Zb (Zg (Zg (Zc (Za 16 J J J (Zd J J (Za 17 J J J (Yi (xs := [.tmp 16, .const (.string ⟨#[102, 114, 111, 109]⟩)]) (i := 2) J J J (HM) by1 ?_)))))))
 refine Vx (Zb ?_)
 apply c_joink [1, 3, 6, 7, 8, 9, 10, 11, 12, 13, 14, 15, 16, 17, 18, 19, 20, 22, 45, 59] (σ := Unit) (fun zz => match zz with | z => []) (fun zz => match zz with | z => [.loc b3 (Tok.mk tk tt tn ta).av, .loc b2 zCl, .loc b (psC L p3), .loc b4 [.val (.string tt), .val (.string vt), .seq 1 (strs sl), .val (.slice none 0 0), .val (.slice none 0 0), .val (.int .i64 ta)]]) (fun zz => match zz with | z => True)
 ·repeat' (first | exact Un | apply Ul rfl | apply Um rfl)
 ·skip
  rcases c17 with _ | _
  ·refine Zq J (Zw (Xc ?_))
   first
   | exact ⟨(), trivial, by4, Ud rfl⟩
   | (rw [if_neg (by decide)] at e3; cases e3; exact ⟨(), trivial, by4, (Ua _ (Ua _ (Ua _ (Uc _ by0 (MLe.nil)))))⟩)
  ·refine Zu J ?_
   rw [if_pos rfl] at e3
   have kA := (Xr k2 h3).ok k2
   have HU := uppers_c b L hL 302 (stepP p2) kA
   rw [e3] at HU
   refine Zc (Za 18 J J J (Zd J J (Za 19 J J J (Yi (xs := [.tmp 18]) (i := 2) J J J (HU) by1 ?_))))
   refine Za 20 J J J (Zh J tf_77_2 J (Zt J J (Zr (cs' := [_, _, _, _, _, _]) (i := 3) J ts_68 J J J J J (Uk J) J (Vx (Xc ?_)))))
   first
   | exact ⟨(), trivial, by4, Ud rfl⟩
   | (rw [if_neg (by decide)] at e3; cases e3; exact ⟨(), trivial, by4, (Ua _ (Ua _ (Ua _ (Uc _ by0 (MLe.nil)))))⟩)
 rintro z hI
 try dsimp only [List.cons_append, List.nil_append] at hI ⊢
 refine Zb (Zg (Zc (Za 21 J J J (Zd J J (Za 22 J J J (Yi (xs := [.tmp 21, .const (.int .i64 6), .const (.string ⟨#[119, 104, 101, 114, 101]⟩)]) (i := 2) J J J (H4) by1 ?_))))))
 refine Vx (Zb (Zg (Zz (Wg 145 6 (Wg 112 13 ?_)))))
 apply Wm [1, 3, 5, 6, 7, 8, 9, 10, 11, 12, 13, 14, 15, 16, 17, 18, 19, 20, 21, 22, 23, 24, 25, 26, 27, 28, 29, 30, 31, 32, 33, 34, 35, 36, 37, 38, 39, 40, 41, 42, 43, 44, 45, 46, 47, 48, 49, 50, 51, 52, 53, 54, 55, 56, 57, 58, 59] (σ := PS × Nat × List Me × List Bi × Value × Value) (fun zz => match zz with | (q, f, ms, ds, u, v) => []) (fun zz => match zz with | (q, f, ms, ds, u, v) => [.loc b3 (Tok.mk tk tt tn ta).av, .loc b2 zCl, .loc b (psC L q), .loc b4 [.val (.string tt), .val (.string vt), .seq 1 (strs sl), .own u 6 (Me.cellss ms), .own v 13 (Bi.cellss ds), .val (.int .i64 ta)], .own 145 6 u, .own 112 13 v]) (fun zz => match zz with | (q, f, ms, ds, u, v) => POk L 302 q ∧ (q.e = 0 → L.length - q.at_ < f ∧ ms.length + ds.length ≤ q.at_) ∧ clsL L f q ms ds = ((ml, dl), p5)) (fun zz => match zz with | (q, f, ms, ds, u, v) => f) ((p4, L.length + 1, [], [], .slice none 0 0, .slice none 0 0))
 ·repeat' (first | exact Un | apply Ul rfl | apply Um rfl)
 ·exact ⟨k4, fun _ => ⟨by omega, Nat.zero_le _⟩, e5⟩
 ·exact by4
 ·exact (Ua _ (Ua _ (Ua _ (Uc _ (Ug (Ue _) (Ug (Ue _) (Ug (Ue _) (Ug (Le.nilOwn 6) (Ug (Le.nilOwn 13) (Uf _)))))) (Vy _)))))
 rintro ⟨q, f, ms, ds, u, v⟩ hI
 try dsimp only [List.cons_append, List.nil_append] at hI ⊢
 obtain ⟨i1, i2, hu⟩ := hI
 have hq1 := i1.1
 refine Zg (Zg (Zc (Za 23 J J J (Zd J J (Za 24 J J J (Yl J J (Za 25 J J J (Zh J Vs J (Za 26 J J J (Zp (i := 2) J Yz J J J (Za 27 J J J (Yk J J J ?_)))))))))))); intro c27 h27
 refine Za 28 J J J (Zd J J ?_)
 rcases Zi h27 with ⟨rfl, g27⟩ | ⟨rfl, g27⟩
 ·skip
  refine Zl 29 J J J J J (Zl 30 J J J J J (Zl 31 J J J J J (Za 32 J J J (Zm J J J (Vx (Zb (Zq J ?_)))))))
  refine Xd (Xf (Xz (Xe (Zb (Zg (Zc (Za 60 J J J (Zx (cs' := [_, _, _, _, _, _]) (i := 3) J ta_77 J J J J (Zt J J (Zr (cs' := [_, _, _, _, _, _]) (i := 1) J ts_77 J J J J J (Uk J) J (Vx (Zb (Ya ?_)))))))))))))
  first
  | (rw [clsL_err g27] at hu; cases hu; subst hr; exact Ym (i := 1) rfl rfl rfl ta_77 rfl by0 (Ub _ (Ub _ (Ua _ (Vz _)))) ⟨rfl, rfl⟩)
  | (obtain ⟨f, rfl⟩ : ∃ f', f = f' + 1 := ⟨f - 1, by have := (i2 g27).1; omega⟩; rw [clsL_end g27 g30] at hu; cases hu; subst hr; exact Ym (i := 1) rfl rfl rfl ta_77 rfl by0 (Ub _ (Ub _ (Ua _ (Vz _)))) ⟨rfl, rfl⟩)
 ·skip
  refine Zo 29 J J J J J (Zd J J (Zo 30 J J J J J (op_mayc (xs := [.tmp 29, .const (.string ⟨#[101, 110, 100]⟩)]) (i := 2) J J J (may_c b L hL q kEnd) by1 ?_ ?_)))
  ·intro g30
   refine Zo 31 J J J J J (Wf J J ?_); intro c31 h31
   try replace h31 := nott h31 h30
   obtain rfl : c31 = false := by
    cases c31 with
    | false => rfl
    | true => exact absurd (h31.1 rfl) (by decide)
   refine Za 32 J J J (Zm J J J (Vx (Zb (Zq J (Xd (Xf (Xz (Xe (Zb (Zg (Zc (Za 60 J J J (Zx (cs' := [_, _, _, _, _, _]) (i := 3) J ta_77 J J J J ?_)))))))))))))
   refine Zt J J (Zr (cs' := [_, _, _, _, _, _]) (i := 1) J ts_77 J J J J J (Uk J) J (Vx (Zb (Ya ?_))))
   first
   | (rw [clsL_err g27] at hu; cases hu; subst hr; exact Ym (i := 1) rfl rfl rfl ta_77 rfl by0 (Ub _ (Ub _ (Ua _ (Vz _)))) ⟨rfl, rfl⟩)
   | (obtain ⟨f, rfl⟩ : ∃ f', f = f' + 1 := ⟨f - 1, by have := (i2 g27).1; omega⟩; rw [clsL_end g27 g30] at hu; cases hu; subst hr; exact Ym (i := 1) rfl rfl rfl ta_77 rfl by0 (Ub _ (Ub _ (Ua _ (Vz _)))) ⟨rfl, rfl⟩)
  ·intro g30
   refine Zo 31 J J J J J (Wf J J ?_); intro c31 h31
   try replace h31 := nott h31 h30
   obtain rfl : c31 = true := h31.2 rfl
   refine Za 32 J J J (Zm J J J (Vx (Zb (Zu J (Zw (Zb (Zz (Zg (Zg ?_)))))))))
   obtain ⟨i3, i4⟩ := i2 g27
   have hl1 : (Me.cellss ms).length ≤ 200000 := by rw [Me.cellss_len]; omega
   have hl2 : (Bi.cellss ds).length ≤ 200000 := by rw [Bi.cellss_len]; omega
   obtain ⟨f, rfl⟩ : ∃ f', f = f' + 1 := ⟨f - 1, by omega⟩
   rw [clsL, if_neg (by rw [g27]; simp), if_neg g30] at hu
   refine Zc (Za 33 J J J (Zd J J (Za 34 J J J (op_mayc (xs := [.tmp 33, .const (.string ⟨#[100, 101, 102]⟩)]) (i := 2) J J J (may_c b L hL q kDef) by1 ?_ ?_))))
   ·intro g34
    refine Vx (Zb (Zu J ?_))
    rw [if_pos g34] at hu
    have l1 := (Xr i1 g34).ok i1
    have l2 := (bindP_adv l1).ok l1
    have b1 : (stepP q).at_ ≤ _ := (bindP_adv l1).1
    have b1' : (stepP q).at_ = q.at_ + 1 := rfl
    have HB := bindP_c b L hL (stepP q) l1
    obtain ⟨⟨⟨bn, ⟨xk, xs, xn, ⟨xtk, xts, xtn, xtl⟩, xks, xal, xbs, xp⟩, bp⟩, q2⟩, f2⟩ : ∃ r, bindP L (stepP q) = r := ⟨_, rfl⟩
    rw [f2] at HB l2 b1 hu
    simp only [Bi.cells, Ex.cells, Ty.cells, List.cons_append, List.nil_append] at HB l2 b1 hu
    have b2' : q.at_ ≤ q2.at_ := by omega
    have HS := take_c b L hL q2 l2.1 7 kSemi
    have hpr := take_prog (L := L) (p := q2) (kind := 7) (s := kSemi) (by decide)
    have l5 := (Yp (kind := 7) (s := kSemi) (by decide) l2).ok l2
    obtain ⟨⟨u6, q5⟩, f5⟩ : ∃ r, takeP L q2 7 kSemi = r := ⟨_, rfl⟩
    rw [f5] at HS hpr l5 hu
    simp only [Prod.mk.injEq] at HS hpr l5 hu
    refine Wc [0, 1, 2, 3, 4, 5, 6, 7] [3, 5, 7] [[], [0], [], [2], [2, 3], [0, 1, 2, 3, 4], [0, 1, 2, 3, 4, 5], [0, 1, 2, 3, 4, 5, 6]] Wi J (Yc 35 (none) (i := 0) J J J J J (Zh J tf_77_4 J ⟨J, J⟩) ?_)
    refine Yc 36 (some 3) (i := 1) J J J J J (Zp (i := 0) J ta_53 J J J ⟨J, J⟩) ?_
    refine Yc 37 (none) (i := 2) J J J J J (Zd J J ⟨J, J⟩) ?_
    refine Xo 2 (i := 3) J J J J J (Yi (xs := [.tmp 37]) (i := 0) J J J (HB) by1 ⟨_, J, ?_⟩)
    refine Yc 39 (none) (i := 4) J J J J J (Yh (xs := [.tmp 38]) el_53 J J J J J J (Uk J) ⟨J, J⟩) ?_
    refine Xo 5 (i := 5) J J J J J (Xj (i := 0) el_53 J J J J (.seq _ _) by6 (fun u40 => ⟨_, J, ?_⟩))
    refine Yc 41 (none) (i := 6) J J J J J (Zh J tf_77_4 J ⟨J, J⟩) ?_
    refine Xo 3 (i := 7) J J J J J (Zr (cs' := [_, _, _, _, _, _]) (i := 0) J ts_53 J J J J J (Uk J) J ⟨_, J, ?_⟩)
    show AGo _ _ _ _ _ _ _
    refine Zb ?_
    first | (have := HN; refine c_le (SLe.refl _) (Ub _ (Vy _)) ?_) | skip
    refine Zc (Za 58 J J J (Zd J J (Za 59 J J J (Yi (xs := [.tmp 58, .const (.int .i64 7), .const (.string ⟨#[59]⟩)]) (i := 2) J J J (HS) by1 ?_))))
    refine Vx (Yw (Xc ?_))
    first
    | exact ⟨(q5, f, ms, ds ++ [Bi.mk bn (Ex.mk xk xs xn (Ty.mk xtk xts xtn xtl) xks xal xbs xp) bp], u, u40), ⟨l5, (fun e => by obtain ⟨⟨_, h5⟩, _, h6⟩ := hpr e; rw [h5]; refine ⟨?_, ?_⟩; (show L.length - (q2.at_ + 1) < f; omega); (show ms.length + (ds ++ _).length ≤ q2.at_ + 1; rw [List.length_append]; simp; omega)), hu⟩, Nat.lt_succ_self f, by4, (Ua _ (Ua _ (Ua _ (Uc _ (Ug (Ue _) (Ug (Ue _) (Ug (Ue _) (Ug (Ue _) (Ug (Uj by10) (Uf _)))))) (Ud rfl)))))⟩
    | exact ⟨(q5, f, ms ++ [Me.mk nt (Ty.mk yk ys yn yl) na], ds, u56, v), ⟨l5, (fun e => by obtain ⟨⟨_, h5⟩, _, h6⟩ := hpr e; rw [h5]; refine ⟨?_, ?_⟩; (show L.length - (q2.at_ + 1) < f; omega); (show (ms ++ _).length + ds.length ≤ q2.at_ + 1; rw [List.length_append]; simp; omega)), hu⟩, Nat.lt_succ_self f, by4, (Ua _ (Ua _ (Ua _ (Uc _ (Ug (Ue _) (Ug (Ue _) (Ug (Ue _) (Ug (Uj (by rw [Me.cellss_app']; rfl)) (Ug (Ue _) (Uf _)))))) (Ud rfl)))))⟩
   ·intro g34
    refine Vx (Zb (Zq J (Zg ?_)))
    rw [if_neg g34] at hu
    have HN := pName_c b L hL 302 q i1
    have l1 := (name_adv i1).ok i1
    have b1 := (name_adv i1).1
    obtain ⟨⟨⟨nk, nt, nn, na⟩, q1⟩, f1⟩ : ∃ r, nameP L q = r := ⟨_, rfl⟩
    rw [f1] at HN l1 b1 hu
    simp only [Tok.av] at HN l1 b1 hu
    have HC := take_c b L hL q1 l1.1 7 kColon
    have l2' := (Yp (kind := 7) (s := kColon) (by decide) l1).ok l1
    have b2'' := (Yp (L := L) (kind := 7) (s := kColon) (by decide) l1).1
    obtain ⟨⟨u7, q3⟩, f3⟩ : ∃ r, takeP L q1 7 kColon = r := ⟨_, rfl⟩
    rw [f3] at HC l2' b2'' hu
    simp only [] at HC l2' b2'' hu
    have HT := typeP_c b L hL 302 q3 l2'
    have l2 := (typeP_adv l2').ok l2'
    have b3' := (typeP_adv l2').1
    obtain ⟨⟨⟨yk, ys, yn, yl⟩, q2⟩, f2⟩ : ∃ r, typeP L q3 = r := ⟨_, rfl⟩
    rw [f2] at HT l2 b3' hu
    simp only [Ty.cells] at HT l2 b3' hu
    have b2' : q.at_ ≤ q2.at_ := by omega
    have HS := take_c b L hL q2 l2.1 7 kSemi
    have hpr := take_prog (L := L) (p := q2) (kind := 7) (s := kSemi) (by decide)
    have l5 := (Yp (kind := 7) (s := kSemi) (by decide) l2).ok l2
    obtain ⟨⟨u6, q5⟩, f5⟩ : ∃ r, takeP L q2 7 kSemi = r := ⟨_, rfl⟩
    rw [f5] at HS hpr l5 hu
    simp only [Prod.mk.injEq] at HS hpr l5 hu
    refine Zc (Za 42 J J J (Zd J J (Za 43 J J J (Yi (xs := [.tmp 42]) (i := 2) J J J (HN) by1 ?_))))
    refine Za 5 J J J (Zy (cs' := [_, _, _, _]) J Wq J J ?_); intro b5
    refine Zt J J (Zr (cs' := [_, _, _, _]) (i := 0) J Xk J J J J J (Uk J) J (Vx (Zb (Zg (Zc (Za 44 J J J (Zd J J (Za 45 J J J (Yi (xs := [.tmp 44, .const (.int .i64 7), .const (.string ⟨#[58]⟩)]) (i := 3) J J J (HC) by1 ?_)))))))))
    refine Vx (Zb (Wc [0, 1, 2, 3, 4, 6, 7, 5, 8, 9, 10, 11, 12] [5, 10, 12] [[], [0], [], [2], [], [4], [], [6], [2, 3, 4, 5, 6, 7], [2, 3, 4, 5, 6, 7, 8], [0, 1, 2, 3, 4, 5, 6, 7, 8, 9], [0, 1, 2, 3, 4, 5, 6, 7, 8, 9, 10], [0, 1, 2, 3, 4, 5, 6, 7, 8, 9, 10, 11]] Wi J (Yc 46 (none) (i := 0) J J J J J (Zh J tf_77_3 J ⟨J, J⟩) ?_)))
    refine Yc 47 (some 4) (i := 1) J J J J J (Zp (i := 0) J ta_75 J J J ⟨J, J⟩) ?_
    refine Yc 48 (none) (i := 2) J J J J J (Zh J Xi J ⟨J, J⟩) ?_
    refine Yc 49 (some 0) (i := 3) J J J J J (Zp (i := 0) J Xb J J J ⟨J, J⟩) ?_
    refine Yc 50 (none) (i := 4) J J J J J (Zd J J ⟨J, J⟩) ?_
    refine Yc 52 (none) (i := 6) J J J J J (Zh J Wz J ⟨J, J⟩) ?_
    refine Yc 53 (some 0) (i := 7) J J J J J (Zp (i := 0) J Yz J J J ⟨J, J⟩) ?_
    refine Xo 3 (i := 5) J J J J J (Yi (xs := [.tmp 50]) (i := 0) J J J (HT) by1 ⟨_, J, ?_⟩)
    refine Yc 54 (none) (i := 8) J J J J J (Yo (ns := [0, 1, 2]) (xs := [.tmp 49, .tmp 51, .tmp 53]) J tz_145 J tfl_145 J J J J ⟨J, J⟩) ?_
    refine Yc 55 (none) (i := 9) J J J J J (Yh (xs := [.tmp 54]) el_75 J J J J J J (Uk J) ⟨J, J⟩) ?_
    refine Xo 5 (i := 10) J J J J J (Xj (i := 0) el_75 J J J J (.seq _ _) by6 (fun u56 => ⟨_, J, ?_⟩))
    refine Yc 57 (none) (i := 11) J J J J J (Zh J tf_77_3 J ⟨J, J⟩) ?_
    refine Xo 4 (i := 12) J J J J J (Zr (cs' := [_, _, _, _, _, _]) (i := 0) J ts_75 J J J J J (Uk J) J ⟨_, J, ?_⟩)
    show AGo _ _ _ _ _ _ _
    refine Zb ?_
    first | (have := HN; refine c_le (SLe.refl _) (Ub _ (Vy _)) ?_) | skip
    refine Zc (Za 58 J J J (Zd J J (Za 59 J J J (Yi (xs := [.tmp 58, .const (.int .i64 7), .const (.string ⟨#[59]⟩)]) (i := 2) J J J (HS) by1 ?_))))
    refine Vx (Yw (Xc ?_))
    first
    | exact ⟨(q5, f, ms, ds ++ [Bi.mk bn (Ex.mk xk xs xn (Ty.mk xtk xts xtn xtl) xks xal xbs xp) bp], u, u40), ⟨l5, (fun e => by obtain ⟨⟨_, h5⟩, _, h6⟩ := hpr e; rw [h5]; refine ⟨?_, ?_⟩; (show L.length - (q2.at_ + 1) < f; omega); (show ms.length + (ds ++ _).length ≤ q2.at_ + 1; rw [List.length_append]; simp; omega)), hu⟩, Nat.lt_succ_self f, by4, (Ua _ (Ua _ (Ua _ (Uc _ (Ug (Ue _) (Ug (Ue _) (Ug (Ue _) (Ug (Ue _) (Ug (Uj by10) (Uf _)))))) (Ud rfl)))))⟩
    | exact ⟨(q5, f, ms ++ [Me.mk nt (Ty.mk yk ys yn yl) na], ds, u56, v), ⟨l5, (fun e => by obtain ⟨⟨_, h5⟩, _, h6⟩ := hpr e; rw [h5]; refine ⟨?_, ?_⟩; (show L.length - (q2.at_ + 1) < f; omega); (show (ms ++ _).length + ds.length ≤ q2.at_ + 1; rw [List.length_append]; simp; omega)), hu⟩, Nat.lt_succ_self f, by4, (Ua _ (Ua _ (Ua _ (Uc _ (Ug (Ue _) (Ug (Ue _) (Ug (Ue _) (Ug (Uj (by rw [Me.cellss_app']; rfl)) (Ug (Ue _) (Uf _)))))) (Ud rfl)))))⟩
theorem class_c (b : Nat) (L : List Tok) (hL : L.length ≤ 100000) (p : PS) (k : POk L 302 p) : MCall Tryz.prog 53 [.ptr b 0] (.loc b (psC L p)) (.agg (classP L p).1.cells) (.loc b (psC L (classP L p).2)) := class_b b L hL p k _ rfl
theorem Le.own_less {u : Value} {m : Nat} {es es' : List (List AV)} (h : Less es es') : Le (.own u m es) (.own u m es') := fun F x k => by
 cases k with | own _ k => exact .own _ (Le.seq h _ _ k)
theorem Less.snoc {a b : List AV} (h : Les a b) (hl : a.length = b.length) : ∀ es : List (List AV), Less (es ++ [a]) (es ++ [b])
 | [] => .cons h hl .nil
 | _ :: es => .cons (Uf _) rfl (Less.snoc h hl es)
theorem preds_snoc {u : Value} (acc : List Pr) (ct vt : ByteArray) : Le (.own u 5 (Pr.cellss acc ++ [[.val (.string ct), .val (.int .i64 1), .val (.string vt), .val (.int .i64 0), .val (.slice none 0 0)]])) (.own u 5 (Pr.cellss (acc ++ [Pr.mk ct (Ty.mk 1 vt 0 [])]))) := by
 rw [show Pr.cellss (acc ++ [Pr.mk ct (Ty.mk 1 vt 0 [])]) = Pr.cellss acc ++ [[.val (.string ct), .val (.int .i64 1), .val (.string vt), .val (.int .i64 0), .seq 4 []]] by simp [Pr.cellss, Pr.cells, Ty.cells, Ty.cellss]]
 exact Le.own_less (Less.snoc (Ug (Ue _) (Ug (Ue _) (Ug (Ue _) (Ug (Ue _) (Ug (Le.nil _) (Uf _)))))) J _)
theorem ctxL_err {L : List Tok} {f : Nat} {p : PS} {acc : List Pr} (h : p.e ≠ 0) : ctxL L f p acc = (acc, p) := by
 cases f with
 | zero => rfl
 | succ f => rw [ctxL, if_pos h]
theorem insL_err {L : List Tok} {f : Nat} {p : PS} {bs : List Bi} (h : p.e ≠ 0) : insL L f p bs = (bs, p) := by
 cases f with
 | zero => rfl
 | succ f => rw [insL, if_pos h]
theorem insL_end {L : List Tok} {f : Nat} {p : PS} {bs : List Bi} (h : p.e = 0) (h2 : isP L p kEnd = true) : insL L (f + 1) p bs = (bs, stepP p) := by rw [insL, if_neg (by rw [h]; simp), if_pos h2]
abbrev zIn : List AV := [.val (.string kE), .val (.int .i64 0), .val (.string kE), .val (.int .i64 0), .val (.slice none 0 0), .val (.slice none 0 0), .val (.slice none 0 0), .val (.int .i64 0)]
set_option maxHeartbeats 4000000 in
set_option maxRecDepth 100000 in
theorem inst_b (b : Nat) (L : List Tok) (hL : L.length ≤ 100000) (p : PS) (k : POk L 302 p) (c18 : Bool) (h3 : isP L (atypeG L (typeP L) (takeP L p 2 kE).2).2 kFrom = c18) : MCall Tryz.prog 54 [.ptr b 0] (.loc b (psC L p)) (.agg (instP L p).1.cells) (.loc b (psC L (instP L p).2)) := by
 have H1 := take_c b L hL p k.1 2 kE
 have k1 := (Yp (kind := 2) (s := kE) (by decide) k).ok k
 obtain ⟨r, hr⟩ : ∃ r, instP L p = r := ⟨_, rfl⟩
 rw [hr]
 unfold instP at hr
 simp only [] at hr
 obtain ⟨⟨⟨tk, tt, tn, ta⟩, p1⟩, e1⟩ : ∃ r, takeP L p 2 kE = r := ⟨_, rfl⟩
 rw [e1] at H1 k1 hr h3
 simp only [Tok.av] at H1 k1 hr h3
 have H2 := atype_c b L hL 302 (typeP L) (Type_c b L hL 302) typeP_adv' p1 k1
 have k2 := (atype_adv typeP_adv' k1).ok k1
 obtain ⟨⟨⟨hk, hs, hn, hl⟩, p2⟩, e2⟩ : ∃ r, atypeG L (typeP L) p1 = r := ⟨_, rfl⟩
 rw [e2] at H2 k2 hr h3
 simp only [Ty.cells] at H2 k2 hr h3
 have HM := may_eq (b := b) hL h3
 have k3 := (ctx_adv k2).ok k2
 obtain ⟨⟨cxs, p3⟩, e3⟩ : ∃ r, ctxP L p2 = r := ⟨_, rfl⟩
 rw [e3] at k3 hr
 simp only [] at k3 hr
 have e3 : (if c18 = true then ctxL L (L.length + 1) (stepP p2) [] else ([], p2)) = (cxs, p3) := by rw [← e3, ctxP, h3]
 have H4 := take_c b L hL p3 k3.1 6 kWhere
 have k4 := (Yp (kind := 6) (s := kWhere) (by decide) k3).ok k3
 obtain ⟨⟨u4, p4⟩, e4⟩ : ∃ r, takeP L p3 6 kWhere = r := ⟨_, rfl⟩
 rw [e4] at H4 k4 hr
 simp only [] at H4 k4 hr
 obtain ⟨⟨bl, p5⟩, e5⟩ : ∃ r, insL L (L.length + 1) p4 [] = r := ⟨_, rfl⟩
 rw [e5] at hr
 simp only [] at hr
 refine Zv Tryz.func54 J (by kernel_rfl) J (Uk J) ?_
 refine Ye (Zg (Zc (Za 2 J J J (Zy (cs' := [_, _, _, _, _, _, _, _]) J tz_73 J J ?_)))); intro b2
 refine Vx (Zb (Zg (Zc (Za 8 J J J (Zd J J (Za 9 J J J (Yi (xs := [.tmp 8, .const (.int .i64 2), .const (.string ⟨#[]⟩)]) (i := 1) J J J (H1) by1 ?_)))))))
 refine Za 3 J J J (Zy (cs' := [_, _, _, _]) J Wq J J ?_); intro b3
 refine Zt J J (Zr (cs' := [_, _, _, _]) (i := 0) J Xk J J J J J (Uk J) J (Vx (Zb (Zg (c_drawnEF [0, 1, 2, 4, 5, 3, 6, 7, 8] [3, 7, 8] [[], [0], [], [2], [], [4], [0, 1, 2, 3, 4, 5], [], [0, 1, 2, 3, 4, 5, 6, 7]] 7 (cs0 := [_, _, _, _, _, _, _, _]) Wi J J J J tz_73 J J (EOpsF.d 10 (none) (i := 0) J J J J J J (Zh J Xi J ⟨J, J⟩) ?_))))))
 refine EOpsF.d 11 (some 0) (i := 1) J J J J J J (Zp (i := 0) J Xb J J J ⟨J, J⟩) ?_
 refine EOpsF.d 12 (none) (i := 2) J J J J J J (Zd J J ⟨J, J⟩) ?_
 refine EOpsF.d 14 (none) (i := 4) J J J J J J (Zh J Wz J ⟨J, J⟩) ?_
 refine EOpsF.d 15 (some 0) (i := 5) J J J J J J (Zp (i := 0) J Yz J J J ⟨J, J⟩) ?_
 refine EOpsF.w 2 (i := 3) J J J J J J (Yi (xs := [.tmp 12]) (i := 0) J J J (H2) by1 ⟨_, J, ?_⟩)
 refine EOpsF.d 16 (none) (i := 6) J J J J J J (Yo (ns := [0, 1, 4]) (xs := [.tmp 11, .tmp 13, .tmp 15]) J tz_73 J tfl_73 J J J J ⟨J, J⟩) ?_
 refine EOpsF.free (i := 7) J J J ?_; intro b4
 refine EOpsF.w 3 (i := 8) J J J J J J (Zr (cs' := [_, _, _, _, _, _, _, _]) (i := 0) J ts_73 J J J J J (Uk J) J ⟨_, J, ?_⟩)
 show AGo _ _ _ _ _ _ _
 refine Zb (Zg (Zg (Zc (Za 17 J J J (Zd J J (Za 18 J J J (Yi (xs := [.tmp 17, .const (.string ⟨#[102, 114, 111, 109]⟩)]) (i := 2) J J J (HM) by1 ?_)))))))
 refine Vx (Zb ?_)
 apply c_joink [1, 3, 5, 6, 7, 8, 9, 10, 11, 12, 13, 14, 15, 16, 17, 18, 19, 20, 21, 22, 23, 24, 25, 26, 27, 28, 29, 30, 31, 32, 33, 34, 35, 36, 37, 38, 39, 40, 41, 42, 43, 45, 57, 66] (σ := Unit) (fun zz => match zz with | z => []) (fun zz => match zz with | z => [.loc b3 (Tok.mk tk tt tn ta).av, .loc b2 zIn, .loc b (psC L p3), .loc b4 [.val (.string tt), .val (.int .i64 hk), .val (.string hs), .val (.int .i64 hn), .seq 4 (Ty.cellss hl), .seq 5 (Pr.cellss cxs), .val (.slice none 0 0), .val (.int .i64 ta)]]) (fun zz => match zz with | z => True)
 ·repeat' (first | exact Un | apply Ul rfl | apply Um rfl)
 ·skip
  rcases c18 with _ | _
  ·refine Zq J (Zw (Xc ?_))
   first
   | (rw [if_neg (by decide)] at e3; cases e3; exact ⟨(), trivial, by4, (Ua _ (Ua _ (Ua _ (Uc _ by0 (MLe.nil)))))⟩)
   | (have hu2 : (acc, q) = (cxs, p3) := by
       cases mo with
       | false => exact hu
       | true => rw [if_pos rfl, ctxL_err (fun e => g26 ⟨rfl, e⟩)] at hu; exact hu
      simp only [Prod.mk.injEq] at hu2
      obtain ⟨rfl, rfl⟩ := hu2
      exact ⟨(), trivial, by4, (Ua _ (Ua _ (Ua _ (Uc _ by0 (Ub _ (MLe.nil))))))⟩)
  ·refine Zu J (Zg ?_)
   rw [if_pos rfl] at e3
   have kA := (Xr k2 h3).ok k2
   refine Zc (Za 5 J J J (Zf J J (Vx (Zb (Zz (Wg 27 5 ?_))))))
   apply Wm [1, 3, 5, 6, 7, 8, 9, 10, 11, 12, 13, 14, 15, 16, 17, 18, 19, 20, 21, 22, 23, 24, 25, 26, 27, 28, 29, 30, 31, 32, 33, 34, 35, 36, 37, 38, 39, 40, 41, 42, 43, 45, 57, 66] (σ := PS × Nat × List Pr × Value × Bool) (fun zz => match zz with | (q, f, acc, u, mo) => [(5, .val (.bool mo))]) (fun zz => match zz with | (q, f, acc, u, mo) => [.loc b3 (Tok.mk tk tt tn ta).av, .loc b2 zIn, .loc b (psC L q), .loc b4 [.val (.string tt), .val (.int .i64 hk), .val (.string hs), .val (.int .i64 hn), .seq 4 (Ty.cellss hl), .own u 5 (Pr.cellss acc), .val (.slice none 0 0), .val (.int .i64 ta)], .own 27 5 u]) (fun zz => match zz with | (q, f, acc, u, mo) => POk L 302 q ∧ L.length - q.at_ < f ∧ (mo = true → acc.length ≤ q.at_) ∧ (if mo = true then ctxL L f q acc else (acc, q)) = (cxs, p3)) (fun zz => match zz with | (q, f, acc, u, mo) => 2 * f + (if mo = true then 1 else 0)) ((stepP p2, L.length + 1, [], .slice none 0 0, true))
   ·repeat' (first | exact Un | apply Ul rfl | apply Um rfl)
   ·exact ⟨kA, by omega, fun _ => Nat.zero_le _, e3⟩
   ·exact by4
   ·exact (Ua _ (Ua _ (Ua _ (Uc _ (Ug (Ue _) (Ug (Ue _) (Ug (Ue _) (Ug (Ue _) (Ug (Ue _) (Ug (Le.nilOwn 5) (Uf _))))))) (Vy _)))))
   rintro ⟨q, f, acc, u, mo⟩ hI
   try dsimp only [List.cons_append, List.nil_append] at hI ⊢
   obtain ⟨i1, i2, i3, hu⟩ := hI
   have hq1 := i1.1
   refine Zg (Zg (Xm 26 (mo = true ∧ q.e = 0) ?_ _ _ J ?_))
   ·skip
    refine Za 19 J J J (Zd J J (Za 20 J J J (Zd J J ?_)))
    have h20 : (mo = true ↔ mo = true) := Iff.rfl
    rcases Zi h20 with ⟨rfl, g20⟩ | ⟨rfl, g20⟩
    ·skip
     refine Zl 21 J J J J J (Zl 22 J J J J J (Zl 23 J J J J J (Zl 24 J J J J J (Zl 25 J J J J J (Za 26 J J J (Zm J J J ?_))))))
     refine Vx (Ui J ?_ by5 by3)
     simp_all; done
    ·skip
     refine Zo 21 J J J J J (Zd J J (Zo 22 J J J J J (Yl J J (Zo 23 J J J J J (Zh J Vs J (Zo 24 J J J J J (Zp (i := 2) J Yz J J J (Zo 25 J J J J J (Yk J J J ?_))))))))); intro c25 h25
     refine Za 26 J J J (Zm J J J (Vx (Ui J ?_ by5 by3)))
     simp_all; done
   intro c26 h26
   refine Zb ?_
   rcases Zi h26 with ⟨rfl, g26⟩ | ⟨rfl, g26⟩
   ·refine Zq J (Xd (Xf (Xz (Xe (Xc ?_)))))
    first
    | (rw [if_neg (by decide)] at e3; cases e3; exact ⟨(), trivial, by4, (Ua _ (Ua _ (Ua _ (Uc _ by0 (MLe.nil)))))⟩)
    | (have hu2 : (acc, q) = (cxs, p3) := by
        cases mo with
        | false => exact hu
        | true => rw [if_pos rfl, ctxL_err (fun e => g26 ⟨rfl, e⟩)] at hu; exact hu
       simp only [Prod.mk.injEq] at hu2
       obtain ⟨rfl, rfl⟩ := hu2
       exact ⟨(), trivial, by4, (Ua _ (Ua _ (Ua _ (Uc _ by0 (Ub _ (MLe.nil))))))⟩)
   ·refine Zu J (Zw (Zb (Zz (Zg ?_))))
    obtain ⟨rfl, hq0⟩ := g26
    have i3 := i3 rfl
    have hle : (Pr.cellss acc).length ≤ 200000 := by rw [Pr.cellss_len]; omega
    rw [if_pos rfl] at hu
    obtain ⟨f, rfl⟩ : ∃ f', f = f' + 1 := ⟨f - 1, by omega⟩
    rw [ctxL, if_neg (by rw [hq0]; simp)] at hu
    have HP := take_c b L hL q i1.1 2 kE
    have l1 := (Yp (kind := 2) (s := kE) (by decide) i1).ok i1
    have b1 := (Yp (L := L) (kind := 2) (s := kE) (by decide) i1).1
    obtain ⟨z, hz⟩ : ∃ z, predP L q = z := ⟨_, rfl⟩
    rw [hz] at hu
    unfold predP at hz
    obtain ⟨⟨⟨ck, ct, cn, ca⟩, q1⟩, f1⟩ : ∃ r, takeP L q 2 kE = r := ⟨_, rfl⟩
    rw [f1] at HP hz l1 b1
    simp only [Tok.av] at HP hz l1 b1
    have HV := take_c b L hL q1 l1.1 1 kE
    have l2 := (Yp (kind := 1) (s := kE) (by decide) l1).ok l1
    have b2' := (Yp (L := L) (kind := 1) (s := kE) (by decide) l1).1
    obtain ⟨⟨⟨vk, vt, vn, va⟩, q2⟩, f2⟩ : ∃ r, takeP L q1 1 kE = r := ⟨_, rfl⟩
    rw [f2] at HV l2 b2' hz
    simp only [Tok.av] at HV l2 b2' hz
    subst hz
    simp only [] at hu
    have l2a := l2.1
    refine Zc (Za 27 J J J (Zd J J (Za 28 J J J (Yi (xs := [.tmp 27, .const (.int .i64 2), .const (.string ⟨#[]⟩)]) (i := 2) J J J (HP) by1 ?_))))
    refine Za 29 J J J (Vd (ft := 9) (fo := 1) J (by kernel_rfl) Xb J J ?_)
    refine Za 6 J J J (Zf J J (Vx (Zb (Zg (Zc (Za 30 J J J (Zd J J (Za 31 J J J (Yi (xs := [.tmp 30, .const (.int .i64 1), .const (.string ⟨#[]⟩)]) (i := 2) J J J (HV) by1 ?_)))))))))
    refine Za 32 J J J (Vd (ft := 9) (fo := 1) J (by kernel_rfl) Xb J J ?_)
    refine Za 7 J J J (Zf J J (Vx (Zb (Zg (Zc (Za 33 J J J (Zh J tf_73_2 J (Za 34 J J J (Zp (i := 3) J ta_22 J J J (Za 35 J J J (Zd J J (Za 36 J J J (Zd J J ?_)))))))))))))
    refine Za 37 J J J (Yo (ns := [0, 1]) (xs := [.const (.int .i64 1), .tmp 36]) J tz_25 J tfl_25 J J J J (Za 38 J J J (Yo (ns := [0, 1]) (xs := [.tmp 35, .tmp 37]) J tz_27 J tfl_27 J J J J (Za 39 J J J (Yh (xs := [.tmp 38]) el_22 J J J J J J (Uk J) (Za 40 J J J (Xj (i := 4) el_22 J J J J (.seq _ _) by6 ?_)))))))
    intro u40
    refine Za 41 J J J (Zh J tf_73_2 J (Zt J J (Zr (cs' := [_, _, _, _, _, _, _, _]) (i := 3) J ts_22 J J J J J (Uk J) J (Vx (Zb (Zc (Za 42 J J J (Zd J J (Za 43 J J J (op_mayc (xs := [.tmp 42, .const (.string ⟨#[44]⟩)]) (i := 2) J J J (may_c b L hL q2 kComma) by1 ?_ ?_))))))))))
    ·intro g43
     refine Za 5 J J J (Zf J J (Vx (Yw (Xc ?_))))
     first
     | (rw [if_pos g43] at hu; have l4 := (Xr l2 g43).ok l2; have l5 := (is_lt g43).2; exact ⟨(stepP q2, f, acc ++ [Pr.mk ct (Ty.mk 1 vt 0 [])], u40, true), ⟨l4, (by show L.length - (q2.at_ + 1) < f; omega), (fun _ => by show (acc ++ _).length ≤ q2.at_ + 1; rw [List.length_append]; simp; omega), hu⟩, (by show 2 * f + 1 < 2 * (f + 1) + 1; omega), Uh rfl (Ue _) by4, (Ua _ (Ua _ (Ua _ (Uc _ (Ug (Ue _) (Ug (Ue _) (Ug (Ue _) (Ug (Ue _) (Ug (Ue _) (Ug (preds_snoc acc ct vt) (Uf _))))))) (Ud rfl)))))⟩)
     | (rw [if_neg g43] at hu; exact ⟨(q2, f + 1, acc ++ [Pr.mk ct (Ty.mk 1 vt 0 [])], u40, false), ⟨l2, (by show L.length - q2.at_ < f + 1; omega), (fun h => by cases h), hu⟩, (by show 2 * (f + 1) + 0 < 2 * (f + 1) + 1; omega), Uh rfl (Ue _) by4, (Ua _ (Ua _ (Ua _ (Uc _ (Ug (Ue _) (Ug (Ue _) (Ug (Ue _) (Ug (Ue _) (Ug (Ue _) (Ug (preds_snoc acc ct vt) (Uf _))))))) (Ud rfl)))))⟩)
    ·intro g43
     refine Za 5 J J J (Zf J J (Vx (Yw (Xc ?_))))
     first
     | (rw [if_pos g43] at hu; have l4 := (Xr l2 g43).ok l2; have l5 := (is_lt g43).2; exact ⟨(stepP q2, f, acc ++ [Pr.mk ct (Ty.mk 1 vt 0 [])], u40, true), ⟨l4, (by show L.length - (q2.at_ + 1) < f; omega), (fun _ => by show (acc ++ _).length ≤ q2.at_ + 1; rw [List.length_append]; simp; omega), hu⟩, (by show 2 * f + 1 < 2 * (f + 1) + 1; omega), Uh rfl (Ue _) by4, (Ua _ (Ua _ (Ua _ (Uc _ (Ug (Ue _) (Ug (Ue _) (Ug (Ue _) (Ug (Ue _) (Ug (Ue _) (Ug (preds_snoc acc ct vt) (Uf _))))))) (Ud rfl)))))⟩)
     | (rw [if_neg g43] at hu; exact ⟨(q2, f + 1, acc ++ [Pr.mk ct (Ty.mk 1 vt 0 [])], u40, false), ⟨l2, (by show L.length - q2.at_ < f + 1; omega), (fun h => by cases h), hu⟩, (by show 2 * (f + 1) + 0 < 2 * (f + 1) + 1; omega), Uh rfl (Ue _) by4, (Ua _ (Ua _ (Ua _ (Uc _ (Ug (Ue _) (Ug (Ue _) (Ug (Ue _) (Ug (Ue _) (Ug (Ue _) (Ug (preds_snoc acc ct vt) (Uf _))))))) (Ud rfl)))))⟩)
 rintro z hI
 try dsimp only [List.cons_append, List.nil_append] at hI ⊢
 refine Zb (Zg (Zc (Za 44 J J J (Zd J J (Za 45 J J J (Yi (xs := [.tmp 44, .const (.int .i64 6), .const (.string ⟨#[119, 104, 101, 114, 101]⟩)]) (i := 2) J J J (H4) by1 ?_))))))
 refine Vx (Zb (Zg (Zz (Wg 112 13 ?_))))
 apply Wm [1, 3, 5, 6, 7, 8, 9, 10, 11, 12, 13, 14, 15, 16, 17, 18, 19, 20, 21, 22, 23, 24, 25, 26, 27, 28, 29, 30, 31, 32, 33, 34, 35, 36, 37, 38, 39, 40, 41, 42, 43, 44, 45, 46, 47, 48, 49, 50, 51, 52, 53, 54, 55, 56, 57, 58, 59, 60, 61, 62, 63, 64, 65, 66] (σ := PS × Nat × List Bi × Value) (fun zz => match zz with | (q, f, bs, v) => []) (fun zz => match zz with | (q, f, bs, v) => [.loc b3 (Tok.mk tk tt tn ta).av, .loc b2 zIn, .loc b (psC L q), .loc b4 [.val (.string tt), .val (.int .i64 hk), .val (.string hs), .val (.int .i64 hn), .seq 4 (Ty.cellss hl), .seq 5 (Pr.cellss cxs), .own v 13 (Bi.cellss bs), .val (.int .i64 ta)], .own 112 13 v]) (fun zz => match zz with | (q, f, bs, v) => POk L 302 q ∧ (q.e = 0 → L.length - q.at_ < f ∧ bs.length ≤ q.at_) ∧ insL L f q bs = (bl, p5)) (fun zz => match zz with | (q, f, bs, v) => f) ((p4, L.length + 1, [], .slice none 0 0))
 ·repeat' (first | exact Un | apply Ul rfl | apply Um rfl)
 ·exact ⟨k4, fun _ => ⟨by omega, Nat.zero_le _⟩, e5⟩
 ·exact by4
 ·exact (Ua _ (Ua _ (Ua _ (Uc _ (Ug (Ue _) (Ug (Ue _) (Ug (Ue _) (Ug (Ue _) (Ug (Ue _) (Ug (Ue _) (Ug (Le.nilOwn 13) (Uf _)))))))) (Vy _)))))
 rintro ⟨q, f, bs, v⟩ hI
 try dsimp only [List.cons_append, List.nil_append] at hI ⊢
 obtain ⟨i1, i2, hu⟩ := hI
 have hq1 := i1.1
 refine Zg (Zg (Zc (Za 46 J J J (Zd J J (Za 47 J J J (Yl J J (Za 48 J J J (Zh J Vs J (Za 49 J J J (Zp (i := 2) J Yz J J J (Za 50 J J J (Yk J J J ?_)))))))))))); intro c50 h50
 refine Za 51 J J J (Zd J J ?_)
 rcases Zi h50 with ⟨rfl, g50⟩ | ⟨rfl, g50⟩
 ·skip
  refine Zl 52 J J J J J (Zl 53 J J J J J (Zl 54 J J J J J (Za 55 J J J (Zm J J J (Vx (Zb (Zq J ?_)))))))
  refine Xd (Xf (Xz (Xe (Zb (Zg (Zc (Za 67 J J J (Zx (cs' := [_, _, _, _, _, _, _, _]) (i := 3) J ta_73 J J J J (Zt J J (Zr (cs' := [_, _, _, _, _, _, _, _]) (i := 1) J ts_73 J J J J J (Uk J) J (Vx (Zb (Ya ?_)))))))))))))
  first
  | (rw [insL_err g50] at hu; cases hu; subst hr; exact Ym (i := 1) rfl rfl rfl ta_73 rfl by0 (Ub _ (Ub _ (Ua _ (Vz _)))) ⟨rfl, rfl⟩)
  | (obtain ⟨f, rfl⟩ : ∃ f', f = f' + 1 := ⟨f - 1, by have := (i2 g50).1; omega⟩; rw [insL_end g50 g53] at hu; cases hu; subst hr; exact Ym (i := 1) rfl rfl rfl ta_73 rfl by0 (Ub _ (Ub _ (Ua _ (Vz _)))) ⟨rfl, rfl⟩)
 ·skip
  refine Zo 52 J J J J J (Zd J J (Zo 53 J J J J J (op_mayc (xs := [.tmp 52, .const (.string ⟨#[101, 110, 100]⟩)]) (i := 2) J J J (may_c b L hL q kEnd) by1 ?_ ?_)))
  ·intro g53
   refine Zo 54 J J J J J (Wf J J ?_); intro c54 h54
   try replace h54 := nott h54 h53
   obtain rfl : c54 = false := by
    cases c54 with
    | false => rfl
    | true => exact absurd (h54.1 rfl) (by decide)
   refine Za 55 J J J (Zm J J J (Vx (Zb (Zq J (Xd (Xf (Xz (Xe (Zb (Zg (Zc (Za 67 J J J (Zx (cs' := [_, _, _, _, _, _, _, _]) (i := 3) J ta_73 J J J J ?_)))))))))))))
   refine Zt J J (Zr (cs' := [_, _, _, _, _, _, _, _]) (i := 1) J ts_73 J J J J J (Uk J) J (Vx (Zb (Ya ?_))))
   first
   | (rw [insL_err g50] at hu; cases hu; subst hr; exact Ym (i := 1) rfl rfl rfl ta_73 rfl by0 (Ub _ (Ub _ (Ua _ (Vz _)))) ⟨rfl, rfl⟩)
   | (obtain ⟨f, rfl⟩ : ∃ f', f = f' + 1 := ⟨f - 1, by have := (i2 g50).1; omega⟩; rw [insL_end g50 g53] at hu; cases hu; subst hr; exact Ym (i := 1) rfl rfl rfl ta_73 rfl by0 (Ub _ (Ub _ (Ua _ (Vz _)))) ⟨rfl, rfl⟩)
  ·intro g53
   refine Zo 54 J J J J J (Wf J J ?_); intro c54 h54
   try replace h54 := nott h54 h53
   obtain rfl : c54 = true := h54.2 rfl
   refine Za 55 J J J (Zm J J J (Vx (Zb (Zu J (Zw (Zb (Zz (Zg ?_))))))))
   obtain ⟨i3, i4⟩ := i2 g50
   have hl2 : (Bi.cellss bs).length ≤ 200000 := by rw [Bi.cellss_len]; omega
   obtain ⟨f, rfl⟩ : ∃ f', f = f' + 1 := ⟨f - 1, by omega⟩
   rw [insL, if_neg (by rw [g50]; simp), if_neg g53] at hu
   have HD := take_c b L hL q hq1 6 kDef
   have l1 := (Yp (kind := 6) (s := kDef) (by decide) i1).ok i1
   have b1 := (Yp (L := L) (kind := 6) (s := kDef) (by decide) i1).1
   obtain ⟨⟨u7, q1⟩, f1⟩ : ∃ r, takeP L q 6 kDef = r := ⟨_, rfl⟩
   rw [f1] at HD l1 b1 hu
   simp only [] at HD l1 b1 hu
   have HB := bindP_c b L hL q1 l1
   have l2 := (bindP_adv l1).ok l1
   have b2' := (bindP_adv l1).1
   obtain ⟨⟨⟨bn, ⟨xk, xs, xn, ⟨xtk, xts, xtn, xtl⟩, xks, xal, xbs, xp⟩, bp⟩, q2⟩, f2⟩ : ∃ r, bindP L q1 = r := ⟨_, rfl⟩
   rw [f2] at HB l2 b2' hu
   simp only [Bi.cells, Ex.cells, Ty.cells, List.cons_append, List.nil_append] at HB l2 b2' hu
   have HS := take_c b L hL q2 l2.1 7 kSemi
   have hpr := take_prog (L := L) (p := q2) (kind := 7) (s := kSemi) (by decide)
   have l5 := (Yp (kind := 7) (s := kSemi) (by decide) l2).ok l2
   obtain ⟨⟨u6, q5⟩, f5⟩ : ∃ r, takeP L q2 7 kSemi = r := ⟨_, rfl⟩
   rw [f5] at HS hpr l5 hu
   simp only [Prod.mk.injEq] at HS hpr l5 hu
   refine Zc (Za 56 J J J (Zd J J (Za 57 J J J (Yi (xs := [.tmp 56, .const (.int .i64 6), .const (.string ⟨#[100, 101, 102]⟩)]) (i := 2) J J J (HD) by1 ?_))))
   refine Vx (Zb (Zg (Wc [0, 1, 2, 3, 4, 5, 6, 7] [3, 5, 7] [[], [0], [], [2], [2, 3], [0, 1, 2, 3, 4], [0, 1, 2, 3, 4, 5], [0, 1, 2, 3, 4, 5, 6]] Wi J (Yc 58 (none) (i := 0) J J J J J (Zh J tf_73_3 J ⟨J, J⟩) ?_))))
   refine Yc 59 (some 3) (i := 1) J J J J J (Zp (i := 0) J ta_53 J J J ⟨J, J⟩) ?_
   refine Yc 60 (none) (i := 2) J J J J J (Zd J J ⟨J, J⟩) ?_
   refine Xo 2 (i := 3) J J J J J (Yi (xs := [.tmp 60]) (i := 0) J J J (HB) by1 ⟨_, J, ?_⟩)
   refine Yc 62 (none) (i := 4) J J J J J (Yh (xs := [.tmp 61]) el_53 J J J J J J (Uk J) ⟨J, J⟩) ?_
   refine Xo 4 (i := 5) J J J J J (Xj (i := 0) el_53 J J J J (.seq _ _) by6 (fun u63 => ⟨_, J, ?_⟩))
   refine Yc 64 (none) (i := 6) J J J J J (Zh J tf_73_3 J ⟨J, J⟩) ?_
   refine Xo 3 (i := 7) J J J J J (Zr (cs' := [_, _, _, _, _, _, _, _]) (i := 0) J ts_53 J J J J J (Uk J) J ⟨_, J, ?_⟩)
   show AGo _ _ _ _ _ _ _
   refine Zb (Zc (Za 65 J J J (Zd J J (Za 66 J J J (Yi (xs := [.tmp 65, .const (.int .i64 7), .const (.string ⟨#[59]⟩)]) (i := 2) J J J (HS) by1 ?_)))))
   refine Vx (Yw (Xc ?_))
   exact ⟨(q5, f, bs ++ [Bi.mk bn (Ex.mk xk xs xn (Ty.mk xtk xts xtn xtl) xks xal xbs xp) bp], u63), ⟨l5, (fun e => by obtain ⟨⟨_, h5⟩, _, h6⟩ := hpr e; rw [h5]; refine ⟨?_, ?_⟩; (show L.length - (q2.at_ + 1) < f; omega); (show (bs ++ _).length ≤ q2.at_ + 1; rw [List.length_append]; simp; omega)), hu⟩, Nat.lt_succ_self f, by4, (Ua _ (Ua _ (Ua _ (Uc _ (Ug (Ue _) (Ug (Ue _) (Ug (Ue _) (Ug (Ue _) (Ug (Ue _) (Ug (Ue _) (Ug (Uj by10) (Uf _)))))))) (Ud rfl)))))⟩
theorem inst_c (b : Nat) (L : List Tok) (hL : L.length ≤ 100000) (p : PS) (k : POk L 302 p) : MCall Tryz.prog 54 [.ptr b 0] (.loc b (psC L p)) (.agg (instP L p).1.cells) (.loc b (psC L (instP L p).2)) := inst_b b L hL p k _ rfl
set_option maxHeartbeats 4000000 in
set_option maxRecDepth 100000 in
theorem begin_c (s : ByteArray) : ACall Tryz.prog 49 [.val (.string s)] [] (fun v M' => ∃ b, v = .ptr b 0 ∧ M' = [.loc b (psC (scanT s).1 (beginP (scanT s)))]) := by
 have HS := Scan_c s
 obtain ⟨⟨L, e, w⟩, hs⟩ : ∃ r, scanT s = r := ⟨_, rfl⟩
 rw [hs] at HS ⊢
 have HF := fun b => fail_c b L ⟨0, 0, 0, 0⟩ e w
 unfold beginP
 simp only [scanR] at HS ⊢
 refine Zv Tryz.func49 J (by kernel_rfl) J (Uk J) ?_
 refine Ye (Zg (Zc (Za 2 J J J (Zf J J (Vx (Zb (Zg (Zc (Za 8 J J J (Zd J J (Za 9 J J J (Yn (xs := [.tmp 8]) J J (HS) by1 ?_))))))))))))
 refine Za 7 J J J (Zd J J (Za 10 J J J (Xa J J J (Za 11 J J J (Xa J J J (Za 12 J J J (Xa J J J (Za 3 J J J (Zf J J (Za 4 J J J (Zf J J ?_)))))))))))
 refine Za 5 J J J (Zf J J (Vx (Zb (Zg (Zc (Za 13 J J J (Zd J J (Za 14 J J J (Yo (ns := [0]) (xs := [.tmp 13]) J tz_95 J tfl_95 J J J J (Za 15 J J J (op_boxe (cs' := [_, _, _, _, _]) J J J J ?_))))))))))); intro b15
 refine Za 6 J J J (Zf J J (Vx (Zb (Zg (Zg (Zc (Za 16 J J J (Zd J J (Za 17 J J J (Xp J J J ?_)))))))))); intro c17 h17
 refine Vx (Zb ?_)
 rcases Zi h17 with ⟨rfl, g17⟩ | ⟨rfl, g17⟩
 ·refine Zq J (Zw (Zb (Zg (Zc (Za 22 J J J (Zd J J (Za 2 J J J (Zf J J (Vx (Zb (Ya ?_)))))))))))
  first
  | (rw [if_pos g17]; exact Yf rfl rfl (Ue _) (Ud rfl) ⟨b15, rfl, rfl⟩)
  | (rw [if_neg g17]; exact Yf rfl rfl (Ue _) (Ud rfl) ⟨b15, rfl, rfl⟩)
 ·refine Zu J (Zc (Za 18 J J J (Zd J J (Za 19 J J J (Zd J J (Za 20 J J J (Zd J J (Za 21 J J J (Yi (xs := [.tmp 18, .tmp 19, .tmp 20]) (i := 0) J J J (HF b15) by1 ?_)))))))))
  refine Vx (Zb (Zg (Zc (Za 22 J J J (Zd J J (Za 2 J J J (Zf J J (Vx (Zb (Ya ?_))))))))))
  first
  | (rw [if_pos g17]; exact Yf rfl rfl (Ue _) (Ud rfl) ⟨b15, rfl, rfl⟩)
  | (rw [if_neg g17]; exact Yf rfl rfl (Ue _) (Ud rfl) ⟨b15, rfl, rfl⟩)
theorem progL_end {L : List Tok} {f : Nat} {p : PS} {x : Pg} (h : p.e ≠ 0 ∨ (nxt L p).k = 0) : progL L f p x = (x, p) := by
 cases f with
 | zero => rfl
 | succ f => rw [progL, if_pos h]
theorem Da.cellss_app' (a b : List Da) : Da.cellss (a ++ b) = Da.cellss a ++ Da.cellss b := by simp [Da.cellss]
theorem Cl.cellss_app' (a b : List Cl) : Cl.cellss (a ++ b) = Cl.cellss a ++ Cl.cellss b := by simp [Cl.cellss]
theorem In.cellss_app' (a b : List In) : In.cellss (a ++ b) = In.cellss a ++ In.cellss b := by simp [In.cellss]
abbrev zPg : List AV := [.val (.slice none 0 0), .val (.slice none 0 0), .val (.slice none 0 0), .val (.slice none 0 0)]
def progR (o : Pg × Int × Int) : AV := .tup [.agg o.1.cells, .val (.int .i64 o.2.1), .val (.int .i64 o.2.2)]
theorem begin_ok (s : ByteArray) : POk (scanT s).1 302 (beginP (scanT s)) := by
 have h : ∀ e w, POk (scanT s).1 302 (failP ⟨0, 0, 0, 0⟩ e w) := fun e w => by
  unfold failP
  refine ⟨?_, ?_, ?_, fun _ => ⟨?_, ?_⟩⟩ <;> simp
 unfold beginP
 split
 ·exact h _ _
 ·refine ⟨?_, ?_, ?_, fun _ => ⟨?_, ?_⟩⟩ <;> simp
set_option maxHeartbeats 4000000 in
set_option maxRecDepth 100000 in
theorem Prog_c (s : ByteArray) : PCall Tryz.prog 24 [.val (.string s)] (progR (progT s)) := by
 have HB := begin_c s
 have hL := scanT_len s
 have k0 := begin_ok s
 obtain ⟨r, hr⟩ : ∃ r, progT s = r := ⟨_, rfl⟩
 rw [hr]
 unfold progT at hr
 simp only [] at hr
 obtain ⟨L, hLe⟩ : ∃ L, (scanT s).1 = L := ⟨_, rfl⟩
 obtain ⟨p0, hp0⟩ : ∃ p, beginP (scanT s) = p := ⟨_, rfl⟩
 rw [hLe, hp0] at HB k0 hr
 rw [hLe] at hL
 have hL : L.length ≤ 100000 := by omega
 obtain ⟨⟨⟨fd, fc, fi, fb⟩, p9⟩, e9⟩ : ∃ r, progL L (L.length + 1) p0 pg0 = r := ⟨_, rfl⟩
 rw [e9] at hr
 simp only [] at hr
 refine Zv Tryz.func24 J (by kernel_rfl) J (Uk J) ?_
 refine Ye (Zg (Zc (Za 2 J J J (Zy (cs' := [_, _, _, _]) J tz_55 J J ?_)))); intro b2
 refine Za 3 J J J (Zf J J (Za 4 J J J (Zf J J (Vx (Zb (Zg (Zc (Za 7 J J J (Zd J J (Za 8 J J J (op_callat [] (xs := [.tmp 7]) J J J (HB) by1 ?_)))))))))))
 rintro v M' ⟨b, rfl, rfl⟩
 refine Za 5 J J J (Zf J J (Vx (Zb (Zg (Zc (Za 9 J J J (Yo (ns := []) (xs := []) J tz_55 J tfl_55 J J J J (Za 6 J J J (Zy (cs' := [_, _, _, _]) J tz_55 J J ?_))))))))); intro b6
 refine Zt J J (Zr (cs' := [_, _, _, _]) (i := 0) J ts_55 J J J J J (Uk J) J (Vx (Zb (Zg (Zz (Wg 102 5 (Wg 77 6 (Wg 73 8 (Wg 112 13 ?_)))))))))
 apply Wm [0, 1, 7, 8, 9, 10, 11, 12, 13, 14, 15, 16, 17, 18, 19, 20, 21, 22, 23, 24, 25, 26, 27, 28, 29, 30, 31, 32, 33, 34, 35, 36, 37, 38, 39, 40, 41, 42, 43, 44, 45, 46, 47, 48, 49, 50, 51, 52, 53, 54, 55, 56, 57, 58] (σ := PS × Nat × Pg × Value × Value × Value × Value) (fun zz => match zz with | (q, f, Pg.mk da cl ins bs, u1, u2, u3, u4) => []) (fun zz => match zz with | (q, f, Pg.mk da cl ins bs, u1, u2, u3, u4) => [.loc b6 [.own u1 5 (Da.cellss da), .own u2 6 (Cl.cellss cl), .own u3 8 (In.cellss ins), .own u4 13 (Bi.cellss bs)], .loc b (psC L q), .loc b2 zPg, .own 102 5 u1, .own 77 6 u2, .own 73 8 u3, .own 112 13 u4]) (fun zz => match zz with | (q, f, Pg.mk da cl ins bs, u1, u2, u3, u4) => POk L 302 q ∧ (q.e = 0 → L.length - q.at_ < f ∧ da.length + cl.length + ins.length + bs.length ≤ q.at_) ∧ progL L f q (Pg.mk da cl ins bs) = (Pg.mk fd fc fi fb, p9)) (fun zz => match zz with | (q, f, Pg.mk da cl ins bs, u1, u2, u3, u4) => f) ((p0, L.length + 1, Pg.mk [] [] [] [], .slice none 0 0, .slice none 0 0, .slice none 0 0, .slice none 0 0))
 ·repeat' (first | exact Un | apply Ul rfl | apply Um rfl)
 ·exact ⟨k0, fun _ => ⟨by omega, Nat.zero_le _⟩, e9⟩
 ·exact by4
 ·exact (Uc _ (Ug (Le.nilOwn 5) (Ug (Le.nilOwn 6) (Ug (Le.nilOwn 8) (Ug (Le.nilOwn 13) (Uf _))))) (Ud J))
 rintro ⟨q, f, ⟨da, cl, ins, bs⟩, u1, u2, u3, u4⟩ hI
 try dsimp only [List.cons_append, List.nil_append] at hI ⊢
 obtain ⟨i1, i2, hu⟩ := hI
 have hq1 := i1.1
 have HN := next_c b L q
 have hend := fun h => progL_end (L := L) (f := f) (p := q) (x := Pg.mk da cl ins bs) h
 obtain ⟨⟨qk, qt, qn, qa⟩, hqt⟩ : ∃ t, nxt L q = t := ⟨_, rfl⟩
 have hgo : ∀ f x, q.e = 0 → qk ≠ 0 → progL L (f + 1) q x = progL L f (takeP L (declP L q x).2 7 kSemi).2 (declP L q x).1 := fun f x h1 h2 => by
  rw [progL, hqt, if_neg (fun h => by rcases h with h | h; exact h h1; exact h2 h)]
 rw [hqt] at HN hend
 simp only [Tok.av] at HN hend
 refine Zg (Zg (Xm 20 (q.e = 0 ∧ qk ≠ 0) ?_ _ _ J ?_))
 ·skip
  refine Za 10 J J J (Zd J J (Za 11 J J J (Yl J J (Za 12 J J J (Zh J Vs J (Za 13 J J J (Zp (i := 1) J Yz J J J (Za 14 J J J (Yk J J J ?_))))))))); intro c14 h14
  refine Za 15 J J J (Zd J J ?_)
  rcases Zi h14 with ⟨rfl, g14⟩ | ⟨rfl, g14⟩
  ·skip
   refine Zl 16 J J J J J (Zl 17 J J J J J (Zl 18 J J J J J (Zl 19 J J J J J (Za 20 J J J (Zm J J J (Vx ?_))))))
   refine Ui J ?_ by5 by3
   clear HN hend hgo HB; first | (simp_all; done) | grind
  ·skip
   refine Zo 16 J J J J J (Zd J J (Zo 17 J J J J J (Ww (xs := [.tmp 16]) [1] J J J (HN) by1 ?_)))
   refine Zo 18 J J J J J (Vd (ft := 3) (fo := 0) J (by kernel_rfl) Yz J J ?_)
   refine Zo 19 J J J J J (Xp J J J ?_); intro c19 h19
   refine Za 20 J J J (Zm J J J (Vx (Ui J ?_ by5 by3)))
   clear HN hend hgo HB; first | (simp_all; done) | grind
 intro c20 h20
 refine Zb ?_
 rcases Zi h20 with ⟨rfl, g20⟩ | ⟨rfl, g20⟩
 ·refine Zq J (Xd (Xf (Xz (Xe (Zb (Zg (Zg ?_)))))))
  have hx2 : q.e ≠ 0 ∨ qk = 0 := by
   rcases Classical.em (q.e = 0) with h | h
   ·exact .inr (Classical.not_not.1 fun h2 => g20 ⟨h, h2⟩)
   ·exact .inl h
  rw [hend hx2] at hu
  cases hu
  refine Zc (Za 59 J J J (Zd J J (Za 60 J J J (Yl J J (Za 61 J J J (Zh J Vs J (Za 62 J J J (Zp (i := 1) J Yz J J J (Za 63 J J J (Xp J J J ?_)))))))))); intro c63 h63
  refine Vx (Zb ?_)
  rcases Zi h63 with ⟨rfl, g63⟩ | ⟨rfl, g63⟩
  ·refine Zq J (Zw (Zb (Zg (Zc (Za 73 J J J (Zx (cs' := [_, _, _, _]) (i := 0) J ta_55 J J J J (Zt J J (Zr (cs' := [_, _, _, _]) (i := 2) J ts_55 J J J J J (Uk J) J (Za 3 J J J (Zf J J (Za 4 J J J (Zf J J (Vx (Zb ?_))))))))))))))
   refine Ya ?_
   rw [if_neg g63] at hr; subst hr; exact Yq (i := 2) rfl rfl rfl rfl rfl ta_55 rfl by0 (Vz _) ⟨rfl, rfl⟩
  ·refine Zu J (Zg (Wc [0, 1, 2, 3, 4, 5, 6, 7, 8, 9, 10, 11] [9] [[], [], [1], [1, 2], [1, 2, 3], [], [5], [5, 6], [5, 6, 7], [0], [0, 1, 2, 3, 4, 9], [0, 1, 2, 3, 4, 5, 6, 7, 8, 9, 10]] Wi J (Yc 64 (none) (i := 0) J J J J J (Yo (ns := []) (xs := []) J tz_55 J tfl_55 J J J J ⟨J, J⟩) ?_)))
   refine Yc 65 (none) (i := 1) J J J J J (Zd J J ⟨J, J⟩) ?_
   refine Yc 66 (none) (i := 2) J J J J J (Yl J J ⟨J, J⟩) ?_
   refine Yc 67 (none) (i := 3) J J J J J (Zh J Vs J ⟨J, J⟩) ?_
   refine Yc 68 (some 1) (i := 4) J J J J J (Zp (i := 0) J Yz J J J ⟨J, J⟩) ?_
   refine Yc 69 (none) (i := 5) J J J J J (Zd J J ⟨J, J⟩) ?_
   refine Yc 70 (none) (i := 6) J J J J J (Yl J J ⟨J, J⟩) ?_
   refine Yc 71 (none) (i := 7) J J J J J (Zh J tf_95_4 J ⟨J, J⟩) ?_
   refine Yc 72 (some 1) (i := 8) J J J J J (Zp (i := 0) J Yz J J J ⟨J, J⟩) ?_
   refine Xo 2 (i := 9) J J J J J (Zr (cs' := [_, _, _, _]) (i := 0) J ts_55 J J J J J (Uk J) J ⟨_, J, ?_⟩)
   refine Yc 3 (none) (i := 10) J J J J J (Zf J J ⟨J, J⟩) ?_
   refine Yc 4 (none) (i := 11) J J J J J (Zf J J ⟨J, J⟩) ?_
   show AGo _ _ _ _ _ _ _
   refine Zb (Ya ?_)
   rw [if_pos g63] at hr; subst hr; exact Yq (i := 2) rfl rfl rfl rfl rfl ta_55 rfl by0 (Vz _) ⟨rfl, rfl⟩
 ·refine Zu J (Zw (Zb (Zz (Zg (Zg ?_)))))
  obtain ⟨i3, i4⟩ := i2 g20.1
  have hl1 : (Da.cellss da).length ≤ 200000 := by rw [Da.cellss_len]; omega
  have hl2 : (Cl.cellss cl).length ≤ 200000 := by rw [Cl.cellss_len]; omega
  have hl3 : (In.cellss ins).length ≤ 200000 := by rw [In.cellss_len]; omega
  have hl4 : (Bi.cellss bs).length ≤ 200000 := by rw [Bi.cellss_len]; omega
  obtain ⟨f, rfl⟩ : ∃ f', f = f' + 1 := ⟨f - 1, by omega⟩
  rw [hgo f _ g20.1 g20.2] at hu
  have l2 := (decl_adv (Pg.mk da cl ins bs) i1).ok i1
  have b2' := (decl_adv (Pg.mk da cl ins bs) i1).1
  obtain ⟨⟨x, q2⟩, hx⟩ : ∃ r, declP L q (Pg.mk da cl ins bs) = r := ⟨_, rfl⟩
  have hx0 := hx
  unfold declP at hx
  rw [hx0] at hu l2 b2'
  simp only [Pg.da, Pg.cl, Pg.ins, Pg.bs] at hu l2 b2' hx
  have HS := take_c b L hL q2 l2.1 7 kSemi
  have hpr := take_prog (L := L) (p := q2) (kind := 7) (s := kSemi) (by decide)
  have l5 := (Yp (kind := 7) (s := kSemi) (by decide) l2).ok l2
  obtain ⟨⟨u6, q5⟩, f5⟩ : ∃ r, takeP L q2 7 kSemi = r := ⟨_, rfl⟩
  rw [f5] at HS hpr l5 hu
  simp only [Prod.mk.injEq] at HS hpr l5 hu
  refine Zc (Za 21 J J J (Zd J J (Za 22 J J J (op_mayc (xs := [.tmp 21, .const (.string ⟨#[100, 97, 116, 97]⟩)]) (i := 1) J J J (may_c b L hL q kData) by1 ?_ ?_))))
  ·intro g22
   refine Vx (Zb (Zu J ?_))
   rw [if_pos g22] at hx
   have HX := data_c b L hL (stepP q) ((Xr i1 g22).ok i1)
   obtain ⟨⟨⟨xs, xps, xcs, xdv, xp⟩, q3⟩, e3⟩ : ∃ r, dataP L (stepP q) = r := ⟨_, rfl⟩
   rw [e3] at HX hx
   cases hx
   refine Wc [0, 1, 2, 3, 4, 5, 6, 7] [3, 5, 7] [[], [0], [], [2], [2, 3], [0, 1, 2, 3, 4], [0, 1, 2, 3, 4, 5], [0, 1, 2, 3, 4, 5, 6]] Wi J (Yc 23 (none) (i := 0) J J J J J (Zh J tf_55_0 J ⟨J, J⟩) ?_)
   refine Yc 24 (some 0) (i := 1) J J J J J (Zp (i := 0) J ta_34 J J J ⟨J, J⟩) ?_
   refine Yc 25 (none) (i := 2) J J J J J (Zd J J ⟨J, J⟩) ?_
   refine Xo 1 (i := 3) J J J J J (Yi (xs := [.tmp 25]) (i := 0) J J J (HX) by1 ⟨_, J, ?_⟩)
   refine Yc 27 (none) (i := 4) J J J J J (Yh (xs := [.tmp 26]) el_34 J J J J J J (Uk J) ⟨J, J⟩) ?_
   refine Xo 3 (i := 5) J J J J J (Xj (i := 0) el_34 J J J J (.seq _ _) by6 (fun u28 => ⟨_, J, ?_⟩))
   refine Yc 29 (none) (i := 6) J J J J J (Zh J tf_55_0 J ⟨J, J⟩) ?_
   refine Xo 0 (i := 7) J J J J J (Zr (cs' := [_, _, _, _]) (i := 0) J ts_34 J J J J J (Uk J) J ⟨_, J, ?_⟩)
   show AGo _ _ _ _ _ _ _
   refine Zb (Zc (Za 57 J J J (Zd J J (Za 58 J J J (Yi (xs := [.tmp 57, .const (.int .i64 7), .const (.string ⟨#[59]⟩)]) (i := 1) J J J (HS) by1 ?_)))))
   refine Vx (Yw (Xc ?_))
   first
   | exact ⟨(q5, f, Pg.mk (da ++ [Da.mk xs xps xcs xdv xp]) cl ins bs, u28, u2, u3, u4), ⟨l5, (fun e => by obtain ⟨⟨_, h5⟩, _, h6⟩ := hpr e; have b3 : q.at_ ≤ q3.at_ := b2'; rw [h5]; simp only [stepP, List.length_append, List.length_singleton]; omega), hu⟩, Nat.lt_succ_self f, by4, (Uc _ (Ug (Uj (by rw [Da.cellss_app']; rfl)) (Uf _)) (Ud rfl))⟩
   | exact ⟨(q5, f, Pg.mk da (cl ++ [Cl.mk xs xv xsu xms xds xp]) ins bs, u1, u37, u3, u4), ⟨l5, (fun e => by obtain ⟨⟨_, h5⟩, _, h6⟩ := hpr e; have b3 : q.at_ ≤ q3.at_ := b2'; rw [h5]; simp only [stepP, List.length_append, List.length_singleton]; omega), hu⟩, Nat.lt_succ_self f, by4, (Uc _ (Ug (Ue _) (Ug (Uj (by rw [Cl.cellss_app']; rfl)) (Uf _))) (Ud rfl))⟩
   | exact ⟨(q5, f, Pg.mk da cl (ins ++ [In.mk xc (Ty.mk xhk xhs xhn xhl) xcx xbs xp]) bs, u1, u2, u46, u4), ⟨l5, (fun e => by obtain ⟨⟨_, h5⟩, _, h6⟩ := hpr e; have b3 : q.at_ ≤ q3.at_ := b2'; rw [h5]; simp only [stepP, List.length_append, List.length_singleton]; omega), hu⟩, Nat.lt_succ_self f, by4, (Uc _ (Ug (Ue _) (Ug (Ue _) (Ug (Uj (by rw [In.cellss_app']; rfl)) (Uf _)))) (Ud rfl))⟩
   | exact ⟨(q5, f, Pg.mk da cl ins (bs ++ [Bi.mk bn (Ex.mk xk xs xn (Ty.mk xtk xts xtn xtl) xks xal xbs xp) bp]), u1, u2, u3, u55), ⟨l5, (fun e => by obtain ⟨⟨_, h5⟩, _, h6⟩ := hpr e; have b3 : q.at_ ≤ q3.at_ := b2'; rw [h5]; simp only [stepP, List.length_append, List.length_singleton]; omega), hu⟩, Nat.lt_succ_self f, by4, (Uc _ (Ug (Ue _) (Ug (Ue _) (Ug (Ue _) (Ug (Uj by10) (Uf _))))) (Ud rfl))⟩
  ·intro g22
   refine Vx (Zb (Zq J (Zg (Zc (Za 30 J J J (Zd J J (Za 31 J J J (op_mayc (xs := [.tmp 30, .const (.string ⟨#[99, 108, 97, 115, 115]⟩)]) (i := 1) J J J (may_c b L hL q kClass) by1 ?_ ?_))))))))
   ·intro g31
    refine Vx (Zb (Zu J ?_))
    rw [if_neg g22, if_pos g31] at hx
    have HX := class_c b L hL (stepP q) ((Xr i1 g31).ok i1)
    obtain ⟨⟨⟨xs, xv, xsu, xms, xds, xp⟩, q3⟩, e3⟩ : ∃ r, classP L (stepP q) = r := ⟨_, rfl⟩
    rw [e3] at HX hx
    cases hx
    refine Wc [0, 1, 2, 3, 4, 5, 6, 7] [3, 5, 7] [[], [0], [], [2], [2, 3], [0, 1, 2, 3, 4], [0, 1, 2, 3, 4, 5], [0, 1, 2, 3, 4, 5, 6]] Wi J (Yc 32 (none) (i := 0) J J J J J (Zh J tf_55_1 J ⟨J, J⟩) ?_)
    refine Yc 33 (some 0) (i := 1) J J J J J (Zp (i := 0) J Vo J J J ⟨J, J⟩) ?_
    refine Yc 34 (none) (i := 2) J J J J J (Zd J J ⟨J, J⟩) ?_
    refine Xo 1 (i := 3) J J J J J (Yi (xs := [.tmp 34]) (i := 0) J J J (HX) by1 ⟨_, J, ?_⟩)
    refine Yc 36 (none) (i := 4) J J J J J (Yh (xs := [.tmp 35]) el_35 J J J J J J (Uk J) ⟨J, J⟩) ?_
    refine Xo 4 (i := 5) J J J J J (Xj (i := 0) el_35 J J J J (.seq _ _) by6 (fun u37 => ⟨_, J, ?_⟩))
    refine Yc 38 (none) (i := 6) J J J J J (Zh J tf_55_1 J ⟨J, J⟩) ?_
    refine Xo 0 (i := 7) J J J J J (Zr (cs' := [_, _, _, _]) (i := 0) J ts_35 J J J J J (Uk J) J ⟨_, J, ?_⟩)
    show AGo _ _ _ _ _ _ _
    refine Zb (Zc (Za 57 J J J (Zd J J (Za 58 J J J (Yi (xs := [.tmp 57, .const (.int .i64 7), .const (.string ⟨#[59]⟩)]) (i := 1) J J J (HS) by1 ?_)))))
    refine Vx (Yw (Xc ?_))
    first
    | exact ⟨(q5, f, Pg.mk (da ++ [Da.mk xs xps xcs xdv xp]) cl ins bs, u28, u2, u3, u4), ⟨l5, (fun e => by obtain ⟨⟨_, h5⟩, _, h6⟩ := hpr e; have b3 : q.at_ ≤ q3.at_ := b2'; rw [h5]; simp only [stepP, List.length_append, List.length_singleton]; omega), hu⟩, Nat.lt_succ_self f, by4, (Uc _ (Ug (Uj (by rw [Da.cellss_app']; rfl)) (Uf _)) (Ud rfl))⟩
    | exact ⟨(q5, f, Pg.mk da (cl ++ [Cl.mk xs xv xsu xms xds xp]) ins bs, u1, u37, u3, u4), ⟨l5, (fun e => by obtain ⟨⟨_, h5⟩, _, h6⟩ := hpr e; have b3 : q.at_ ≤ q3.at_ := b2'; rw [h5]; simp only [stepP, List.length_append, List.length_singleton]; omega), hu⟩, Nat.lt_succ_self f, by4, (Uc _ (Ug (Ue _) (Ug (Uj (by rw [Cl.cellss_app']; rfl)) (Uf _))) (Ud rfl))⟩
    | exact ⟨(q5, f, Pg.mk da cl (ins ++ [In.mk xc (Ty.mk xhk xhs xhn xhl) xcx xbs xp]) bs, u1, u2, u46, u4), ⟨l5, (fun e => by obtain ⟨⟨_, h5⟩, _, h6⟩ := hpr e; have b3 : q.at_ ≤ q3.at_ := b2'; rw [h5]; simp only [stepP, List.length_append, List.length_singleton]; omega), hu⟩, Nat.lt_succ_self f, by4, (Uc _ (Ug (Ue _) (Ug (Ue _) (Ug (Uj (by rw [In.cellss_app']; rfl)) (Uf _)))) (Ud rfl))⟩
    | exact ⟨(q5, f, Pg.mk da cl ins (bs ++ [Bi.mk bn (Ex.mk xk xs xn (Ty.mk xtk xts xtn xtl) xks xal xbs xp) bp]), u1, u2, u3, u55), ⟨l5, (fun e => by obtain ⟨⟨_, h5⟩, _, h6⟩ := hpr e; have b3 : q.at_ ≤ q3.at_ := b2'; rw [h5]; simp only [stepP, List.length_append, List.length_singleton]; omega), hu⟩, Nat.lt_succ_self f, by4, (Uc _ (Ug (Ue _) (Ug (Ue _) (Ug (Ue _) (Ug (Uj by10) (Uf _))))) (Ud rfl))⟩
   ·intro g31
    refine Vx (Zb (Zq J (Zg (Zc (Za 39 J J J (Zd J J (Za 40 J J J (op_mayc (xs := [.tmp 39, .const (.string ⟨#[105, 110, 115, 116, 97, 110, 99, 101]⟩)]) (i := 1) J J J (may_c b L hL q kInst) by1 ?_ ?_))))))))
    ·intro g40
     refine Vx (Zb (Zu J ?_))
     rw [if_neg g22, if_neg g31, if_pos g40] at hx
     have HX := inst_c b L hL (stepP q) ((Xr i1 g40).ok i1)
     obtain ⟨⟨⟨xc, ⟨xhk, xhs, xhn, xhl⟩, xcx, xbs, xp⟩, q3⟩, e3⟩ : ∃ r, instP L (stepP q) = r := ⟨_, rfl⟩
     rw [e3] at HX hx
     simp only [In.cells, Ty.cells, List.cons_append, List.nil_append] at HX
     cases hx
     refine Wc [0, 1, 2, 3, 4, 5, 6, 7] [3, 5, 7] [[], [0], [], [2], [2, 3], [0, 1, 2, 3, 4], [0, 1, 2, 3, 4, 5], [0, 1, 2, 3, 4, 5, 6]] Wi J (Yc 41 (none) (i := 0) J J J J J (Zh J tf_55_2 J ⟨J, J⟩) ?_)
     refine Yc 42 (some 0) (i := 1) J J J J J (Zp (i := 0) J Vq J J J ⟨J, J⟩) ?_
     refine Yc 43 (none) (i := 2) J J J J J (Zd J J ⟨J, J⟩) ?_
     refine Xo 1 (i := 3) J J J J J (Yi (xs := [.tmp 43]) (i := 0) J J J (HX) by1 ⟨_, J, ?_⟩)
     refine Yc 45 (none) (i := 4) J J J J J (Yh (xs := [.tmp 44]) el_36 J J J J J J (Uk J) ⟨J, J⟩) ?_
     refine Xo 5 (i := 5) J J J J J (Xj (i := 0) el_36 J J J J (.seq _ _) by6 (fun u46 => ⟨_, J, ?_⟩))
     refine Yc 47 (none) (i := 6) J J J J J (Zh J tf_55_2 J ⟨J, J⟩) ?_
     refine Xo 0 (i := 7) J J J J J (Zr (cs' := [_, _, _, _]) (i := 0) J ts_36 J J J J J (Uk J) J ⟨_, J, ?_⟩)
     show AGo _ _ _ _ _ _ _
     refine Zb (Zc (Za 57 J J J (Zd J J (Za 58 J J J (Yi (xs := [.tmp 57, .const (.int .i64 7), .const (.string ⟨#[59]⟩)]) (i := 1) J J J (HS) by1 ?_)))))
     refine Vx (Yw (Xc ?_))
     first
     | exact ⟨(q5, f, Pg.mk (da ++ [Da.mk xs xps xcs xdv xp]) cl ins bs, u28, u2, u3, u4), ⟨l5, (fun e => by obtain ⟨⟨_, h5⟩, _, h6⟩ := hpr e; have b3 : q.at_ ≤ q3.at_ := b2'; rw [h5]; simp only [stepP, List.length_append, List.length_singleton]; omega), hu⟩, Nat.lt_succ_self f, by4, (Uc _ (Ug (Uj (by rw [Da.cellss_app']; rfl)) (Uf _)) (Ud rfl))⟩
     | exact ⟨(q5, f, Pg.mk da (cl ++ [Cl.mk xs xv xsu xms xds xp]) ins bs, u1, u37, u3, u4), ⟨l5, (fun e => by obtain ⟨⟨_, h5⟩, _, h6⟩ := hpr e; have b3 : q.at_ ≤ q3.at_ := b2'; rw [h5]; simp only [stepP, List.length_append, List.length_singleton]; omega), hu⟩, Nat.lt_succ_self f, by4, (Uc _ (Ug (Ue _) (Ug (Uj (by rw [Cl.cellss_app']; rfl)) (Uf _))) (Ud rfl))⟩
     | exact ⟨(q5, f, Pg.mk da cl (ins ++ [In.mk xc (Ty.mk xhk xhs xhn xhl) xcx xbs xp]) bs, u1, u2, u46, u4), ⟨l5, (fun e => by obtain ⟨⟨_, h5⟩, _, h6⟩ := hpr e; have b3 : q.at_ ≤ q3.at_ := b2'; rw [h5]; simp only [stepP, List.length_append, List.length_singleton]; omega), hu⟩, Nat.lt_succ_self f, by4, (Uc _ (Ug (Ue _) (Ug (Ue _) (Ug (Uj (by rw [In.cellss_app']; rfl)) (Uf _)))) (Ud rfl))⟩
     | exact ⟨(q5, f, Pg.mk da cl ins (bs ++ [Bi.mk bn (Ex.mk xk xs xn (Ty.mk xtk xts xtn xtl) xks xal xbs xp) bp]), u1, u2, u3, u55), ⟨l5, (fun e => by obtain ⟨⟨_, h5⟩, _, h6⟩ := hpr e; have b3 : q.at_ ≤ q3.at_ := b2'; rw [h5]; simp only [stepP, List.length_append, List.length_singleton]; omega), hu⟩, Nat.lt_succ_self f, by4, (Uc _ (Ug (Ue _) (Ug (Ue _) (Ug (Ue _) (Ug (Uj by10) (Uf _))))) (Ud rfl))⟩
    ·intro g40
     refine Vx (Zb (Zq J (Zg ?_)))
     rw [if_neg g22, if_neg g31, if_neg g40] at hx
     have HD := take_c b L hL q hq1 6 kDef
     have l1 := (Yp (kind := 6) (s := kDef) (by decide) i1).ok i1
     obtain ⟨⟨u7, q1⟩, f1⟩ : ∃ r, takeP L q 6 kDef = r := ⟨_, rfl⟩
     rw [f1] at HD l1 hx
     simp only [] at HD l1 hx
     have HX := bindP_c b L hL q1 l1
     obtain ⟨⟨⟨bn, ⟨xk, xs, xn, ⟨xtk, xts, xtn, xtl⟩, xks, xal, xbs, xp⟩, bp⟩, q3⟩, e3⟩ : ∃ r, bindP L q1 = r := ⟨_, rfl⟩
     rw [e3] at HX hx
     simp only [Bi.cells, Ex.cells, Ty.cells, List.cons_append, List.nil_append] at HX
     cases hx
     refine Zc (Za 48 J J J (Zd J J (Za 49 J J J (Yi (xs := [.tmp 48, .const (.int .i64 6), .const (.string ⟨#[100, 101, 102]⟩)]) (i := 1) J J J (HD) by1 ?_))))
     refine Vx (Zb (Wc [0, 1, 2, 3, 4, 5, 6, 7] [3, 5, 7] [[], [0], [], [2], [2, 3], [0, 1, 2, 3, 4], [0, 1, 2, 3, 4, 5], [0, 1, 2, 3, 4, 5, 6]] Wi J (Yc 50 (none) (i := 0) J J J J J (Zh J tf_55_3 J ⟨J, J⟩) ?_)))
     refine Yc 51 (some 0) (i := 1) J J J J J (Zp (i := 0) J ta_53 J J J ⟨J, J⟩) ?_
     refine Yc 52 (none) (i := 2) J J J J J (Zd J J ⟨J, J⟩) ?_
     refine Xo 1 (i := 3) J J J J J (Yi (xs := [.tmp 52]) (i := 0) J J J (HX) by1 ⟨_, J, ?_⟩)
     refine Yc 54 (none) (i := 4) J J J J J (Yh (xs := [.tmp 53]) el_53 J J J J J J (Uk J) ⟨J, J⟩) ?_
     refine Xo 6 (i := 5) J J J J J (Xj (i := 0) el_53 J J J J (.seq _ _) by6 (fun u55 => ⟨_, J, ?_⟩))
     refine Yc 56 (none) (i := 6) J J J J J (Zh J tf_55_3 J ⟨J, J⟩) ?_
     refine Xo 0 (i := 7) J J J J J (Zr (cs' := [_, _, _, _]) (i := 0) J ts_53 J J J J J (Uk J) J ⟨_, J, ?_⟩)
     show AGo _ _ _ _ _ _ _
     refine Zb (Zc (Za 57 J J J (Zd J J (Za 58 J J J (Yi (xs := [.tmp 57, .const (.int .i64 7), .const (.string ⟨#[59]⟩)]) (i := 1) J J J (HS) by1 ?_)))))
     refine Vx (Yw (Xc ?_))
     first
     | exact ⟨(q5, f, Pg.mk (da ++ [Da.mk xs xps xcs xdv xp]) cl ins bs, u28, u2, u3, u4), ⟨l5, (fun e => by obtain ⟨⟨_, h5⟩, _, h6⟩ := hpr e; have b3 : q.at_ ≤ q3.at_ := b2'; rw [h5]; simp only [stepP, List.length_append, List.length_singleton]; omega), hu⟩, Nat.lt_succ_self f, by4, (Uc _ (Ug (Uj (by rw [Da.cellss_app']; rfl)) (Uf _)) (Ud rfl))⟩
     | exact ⟨(q5, f, Pg.mk da (cl ++ [Cl.mk xs xv xsu xms xds xp]) ins bs, u1, u37, u3, u4), ⟨l5, (fun e => by obtain ⟨⟨_, h5⟩, _, h6⟩ := hpr e; have b3 : q.at_ ≤ q3.at_ := b2'; rw [h5]; simp only [stepP, List.length_append, List.length_singleton]; omega), hu⟩, Nat.lt_succ_self f, by4, (Uc _ (Ug (Ue _) (Ug (Uj (by rw [Cl.cellss_app']; rfl)) (Uf _))) (Ud rfl))⟩
     | exact ⟨(q5, f, Pg.mk da cl (ins ++ [In.mk xc (Ty.mk xhk xhs xhn xhl) xcx xbs xp]) bs, u1, u2, u46, u4), ⟨l5, (fun e => by obtain ⟨⟨_, h5⟩, _, h6⟩ := hpr e; have b3 : q.at_ ≤ q3.at_ := b2'; rw [h5]; simp only [stepP, List.length_append, List.length_singleton]; omega), hu⟩, Nat.lt_succ_self f, by4, (Uc _ (Ug (Ue _) (Ug (Ue _) (Ug (Uj (by rw [In.cellss_app']; rfl)) (Uf _)))) (Ud rfl))⟩
     | exact ⟨(q5, f, Pg.mk da cl ins (bs ++ [Bi.mk bn (Ex.mk xk xs xn (Ty.mk xtk xts xtn xtl) xks xal xbs xp) bp]), u1, u2, u3, u55), ⟨l5, (fun e => by obtain ⟨⟨_, h5⟩, _, h6⟩ := hpr e; have b3 : q.at_ ≤ q3.at_ := b2'; rw [h5]; simp only [stepP, List.length_append, List.length_singleton]; omega), hu⟩, Nat.lt_succ_self f, by4, (Uc _ (Ug (Ue _) (Ug (Ue _) (Ug (Ue _) (Ug (Uj by10) (Uf _))))) (Ud rfl))⟩
def envR (s : ByteArray) : En × Bool :=
 if 3000 < (s.size : Int) then (.mk [] [] [], false)
 else if (progT s).2.1 ≠ 0 ∨ (checkR (progT s).1).1 ≠ 0 then (.mk [] [] [], false)
 else (envOf (progT s).1, decide ((progT s).1.cl.length ≤ 12 ∧ (progT s).1.ins.length ≤ 30))
theorem envR_ok {s : ByteArray} (h : (envR s).2 = true) : EnC (envR s).1 ∧ (envR s).1.cl.length ≤ 12 ∧ (envR s).1.ins.length ≤ 30 := by
 unfold envR at h ⊢
 split at h
 ·simp at h
 rename_i h1
 split at h
 ·simp at h
 rename_i h2
 rw [if_neg h1, if_neg h2]
 simp only [decide_eq_true_eq] at h
 refine ⟨check_c (progT_g s).1 (by omega), ?_⟩
 generalize (progT s).1 = x at h
 obtain ⟨da, cl, ins, bs⟩ := x
 exact h
set_option maxHeartbeats 4000000 in
set_option maxRecDepth 100000 in
theorem Env_c (s : ByteArray) : PCall Tryz.prog 9 [.val (.string s)] (.tup [.agg (envR s).1.cells, .val (.bool (envR s).2)]) := by
 have HP := Prog_c s
 have HC := fun (p : Pg) hp hb => Check_c p hp hb
 obtain ⟨hg, hb⟩ := progT_g s
 have HC := HC _ hg.b hb
 obtain ⟨r, hr⟩ : ∃ r, envR s = r := ⟨_, rfl⟩
 rw [hr]
 unfold envR at hr
 unfold progR at HP
 generalize progT s = o at *
 obtain ⟨⟨da, cl, ins, bs⟩, e, w⟩ := o
 generalize checkR (.mk da cl ins bs) = f at *
 obtain ⟨f1, f2⟩ := f
 have hcl := Cl.cellss_len cl
 have hin := In.cellss_len ins
 simp only [Pg.cells, faultA] at HP HC
 refine Zv Tryz.func9 J (by kernel_rfl) J (Uk J) ?_
 refine Ye (Zg (Zc (Za 2 J J J (Zy (cs' := [_, _, _]) J tz_38 J J ?_)))); intro b2
 refine Za 3 J J J (Zf J J (Vx (Zb (Zg (Zg (Zc (Za 7 J J J (Zd J J (Za 8 J J J (Xy J Wx J (Za 9 J J J (Vg J J J ?_)))))))))))); intro c9 h9
 refine Vx (Zb ?_)
 rcases Zi h9 with ⟨rfl, g9⟩ | ⟨rfl, g9⟩
 ·refine Zq J (Zw (Zb (Zg ?_)))
  rw [if_neg g9] at hr
  refine Zc (Za 12 J J J (Zd J J (Za 13 J J J (Yn (xs := [.tmp 12]) J J (HP) by1 ?_))))
  refine Za 11 J J J (Zd J J (Za 14 J J J (Xa J J J (Za 15 J J J (Xa J J J (Za 16 J J J (Xa J J J (Za 4 J J J (Zy (cs' := [_, _, _, _]) J tz_55 J J ?_))))))))); intro b4
  refine Zt J J (Zr (cs' := [_, _, _, _]) (i := 0) J ts_55 J J J J J (Uk J) J (Za 5 J J J (Zf J J (Za 6 J J J (Zf J J (Vx (Zb (Zg (Zg (Xm 24 (e ≠ 0 ∨ f1 ≠ 0) ?_ _ _ J ?_))))))))))
  ·skip
   refine Za 17 J J J (Zd J J (Za 18 J J J (Xp J J J ?_))); intro c18 h18
   refine Za 19 J J J (Zd J J ?_)
   rcases Zi h18 with ⟨rfl, g18⟩ | ⟨rfl, g18⟩
   ·skip
    refine Zo 20 J J J J J (Zx (cs' := [_, _, _, _]) (i := 0) J ta_55 J J J J (Zo 21 J J J J J (Yn (xs := [.tmp 20]) J J (HC) by1 ?_)))
    refine Zo 22 J J J J J (Vd (ft := 3) (fo := 0) J (by kernel_rfl) Yz J J ?_)
    refine Zo 23 J J J J J (Xp J J J ?_); intro c23 h23
    refine Za 24 J J J (Zm J J J (Vx (Ui J ?_ by5 by3)))
    first | (simp_all; done) | (simp_all; omega) | grind
   ·skip
    refine Zl 20 J J J J J (Zl 21 J J J J J (Zl 22 J J J J J (Zl 23 J J J J J (Za 24 J J J (Zm J J J (Vx ?_))))))
    refine Ui J ?_ by5 by3
    first | (simp_all; done) | (simp_all; omega) | grind
  intro c24 h24
  refine Zb ?_
  rcases Zi h24 with ⟨rfl, g24⟩ | ⟨rfl, g24⟩
  ·refine Zq J (Zw (Zb (Zg ?_)))
   rw [if_neg g24] at hr
   refine Wc [0, 1, 2, 3, 4, 5, 6, 7, 8, 9, 10, 11, 12, 13, 14, 15, 16, 17, 18] [17] [[], [0], [], [2], [], [4], [0, 1, 2, 3, 4, 5], [], [7], [7, 8], [7, 8, 9], [7, 8, 9, 10], [7, 8, 9, 10, 11], [7, 8, 9, 10, 11, 12], [7, 8, 9, 10, 11, 12, 13], [7, 8, 9, 10, 11, 12, 13, 14], [7, 8, 9, 10, 11, 12, 13, 14, 15], [0, 1, 2, 3, 4, 5, 6, 7, 8, 9, 10, 11], [0, 1, 2, 3, 4, 5, 6, 7, 8, 9, 10, 11, 12, 13, 14, 15, 16, 17]] Wi J (Yc 26 (none) (i := 0) J J J J J (Zh J tf_55_0 J ⟨J, J⟩) ?_)
   refine Yc 27 (some 0) (i := 1) J J J J J (Zp (i := 0) J ta_34 J J J ⟨J, J⟩) ?_
   refine Yc 28 (none) (i := 2) J J J J J (Zh J tf_55_1 J ⟨J, J⟩) ?_
   refine Yc 29 (some 0) (i := 3) J J J J J (Zp (i := 0) J Vo J J J ⟨J, J⟩) ?_
   refine Yc 30 (none) (i := 4) J J J J J (Zh J tf_55_2 J ⟨J, J⟩) ?_
   refine Yc 31 (some 0) (i := 5) J J J J J (Zp (i := 0) J Vq J J J ⟨J, J⟩) ?_
   refine Yc 32 (none) (i := 6) J J J J J (Yo (ns := [0, 1, 2]) (xs := [.tmp 27, .tmp 29, .tmp 31]) J tz_38 J tfl_38 J J J J ⟨J, J⟩) ?_
   refine Yc 33 (none) (i := 7) J J J J J (Zh J tf_55_1 J ⟨J, J⟩) ?_
   refine Yc 34 (some 0) (i := 8) J J J J J (Zp (i := 0) J Vo J J J ⟨J, J⟩) ?_
   refine Yc 35 none (i := 9) J J J J J (Yv J tu_35 J (.seq _ _) (fun _ => ⟨J, J⟩)) ?_
   refine EOps.cm 36 (i := 10) J J J J (fun _ q => op_leq J J J q) ?_; intro c36 h36
   refine Yc 37 (none) (i := 11) J J J J J (Zd J J ⟨J, J⟩) ?_
   rcases Zi h36 with ⟨rfl, g36⟩ | ⟨rfl, g36⟩
   ·skip
    refine EOps.df 38 (i := 12) J J J J J J (EOps.df 39 (i := 13) J J J J J J (EOps.df 40 (i := 14) J J J J J J (EOps.df 41 (i := 15) J J J J J J (Yc 42 (none) (i := 16) J J J J J (Zm J J J ⟨J, J⟩) ?_))))
    refine Xo 1 (i := 17) J J J J J (Zr (cs' := [_, _, _]) (i := 0) J ts_38 J J J J J (Uk J) J ⟨_, J, ?_⟩)
    refine Yc 3 (none) (i := 18) J J J J J (Zf J J ⟨J, J⟩) ?_
    show AGo _ _ _ _ _ _ _
    refine Zb (Ya ?_)
    have hr : (En.mk da cl ins, decide (cl.length ≤ 12 ∧ ins.length ≤ 30)) = r := hr
    first
     | (have hd : decide (cl.length ≤ 12 ∧ ins.length ≤ 30) = false := decide_eq_false (by omega)
        rw [hd] at hr; subst hr
        exact Vc (i := 1) J J J J Wb J by0 (Vz _) ⟨J, J⟩)
     | (rcases Zi h41 with ⟨rfl, g41⟩ | ⟨rfl, g41⟩
        ·have hd : decide (cl.length ≤ 12 ∧ ins.length ≤ 30) = false := decide_eq_false (by omega)
         rw [hd] at hr; subst hr
         exact Vc (i := 1) J J J J Wb J by0 (Vz _) ⟨J, J⟩
        ·have hd : decide (cl.length ≤ 12 ∧ ins.length ≤ 30) = true := decide_eq_true (by omega)
         rw [hd] at hr; subst hr
         exact Vc (i := 1) J J J J Wb J by0 (Vz _) ⟨J, J⟩)
   ·skip
    refine EOps.dg 38 (none) (i := 12) J J J J J J J (Zh J tf_55_2 J ⟨J, J⟩) ?_
    refine EOps.dg 39 (some 0) (i := 13) J J J J J J J (Zp (i := 0) J Vq J J J ⟨J, J⟩) ?_
    refine EOps.dg 40 none (i := 14) J J J J J J J (Yv J tu_36 J (.seq _ _) (fun _ => ⟨J, J⟩)) ?_
    refine EOps.cmg 41 (i := 15) J J J J J J (fun _ q => op_leq J J J q) ?_; intro c41 h41
    refine Yc 42 (none) (i := 16) J J J J J (Zm J J J ⟨J, J⟩) ?_
    refine Xo 1 (i := 17) J J J J J (Zr (cs' := [_, _, _]) (i := 0) J ts_38 J J J J J (Uk J) J ⟨_, J, ?_⟩)
    refine Yc 3 (none) (i := 18) J J J J J (Zf J J ⟨J, J⟩) ?_
    show AGo _ _ _ _ _ _ _
    refine Zb (Ya ?_)
    have hr : (En.mk da cl ins, decide (cl.length ≤ 12 ∧ ins.length ≤ 30)) = r := hr
    first
     | (have hd : decide (cl.length ≤ 12 ∧ ins.length ≤ 30) = false := decide_eq_false (by omega)
        rw [hd] at hr; subst hr
        exact Vc (i := 1) J J J J Wb J by0 (Vz _) ⟨J, J⟩)
     | (rcases Zi h41 with ⟨rfl, g41⟩ | ⟨rfl, g41⟩
        ·have hd : decide (cl.length ≤ 12 ∧ ins.length ≤ 30) = false := decide_eq_false (by omega)
         rw [hd] at hr; subst hr
         exact Vc (i := 1) J J J J Wb J by0 (Vz _) ⟨J, J⟩
        ·have hd : decide (cl.length ≤ 12 ∧ ins.length ≤ 30) = true := decide_eq_true (by omega)
         rw [hd] at hr; subst hr
         exact Vc (i := 1) J J J J Wb J by0 (Vz _) ⟨J, J⟩)
  ·refine Zu J (Zg (Zc (Za 25 J J J (Yo (ns := []) (xs := []) J tz_38 J tfl_38 J J J J (Zt J J (Zr (cs' := [_, _, _]) (i := 1) J ts_38 J J J J J (Uk J) J (Za 3 J J J (Zf J J (Vx (Zb (Ya ?_)))))))))))
   rw [if_pos g24] at hr; subst hr; exact Vc (i := 1) rfl rfl rfl rfl Wb rfl by0 (Vz _) ⟨rfl, rfl⟩
 ·refine Zu J (Zg (Zc (Za 10 J J J (Yo (ns := []) (xs := []) J tz_38 J tfl_38 J J J J (Zt J J (Zr (cs' := [_, _, _]) (i := 0) J ts_38 J J J J J (Uk J) J (Za 3 J J J (Zf J J (Vx (Zb (Ya ?_)))))))))))
  rw [if_pos g9] at hr; subst hr; exact Vc (i := 0) rfl rfl rfl rfl Wb rfl by0 (Vz _) ⟨rfl, rfl⟩
set_option maxRecDepth 100000 in
theorem src_size : ¬ (3000 < (srcB.size : Int)) := by decide +kernel
theorem src_env : envR srcB = (envOf srcPg, true) := by
 unfold envR
 rw [if_neg src_size, src_pg]
 simp only []
 rw [src_check]
 simp only []
 rw [if_neg (by simp)]
 simp [srcPg, Pg.cl, Pg.ins]
theorem srcC_ok : EnC (envOf srcPg) := by
 have h := envR_ok (s := srcB) (by rw [src_env])
 rw [src_env] at h
 exact h.1
set_option maxRecDepth 100000 in
theorem src_p1 : proveF (envOf srcPg) [] 10 (.mk sEq (tyc sList [tyc sInt []])) = (.mk 3 1 kE [.mk 3 0 kE []], true) := by kernel_rfl
set_option maxRecDepth 100000 in
theorem src_p2 : proveF (envOf srcPg) [.mk sOrd (tyv sa)] 10 (.mk sEq (tyv sa)) = (.mk 2 0 sOrd [.mk 1 0 kE []], true) := by kernel_rfl
set_option maxHeartbeats 4000000 in
set_option maxRecDepth 100000 in
theorem con_c (s : ByteArray) (l : List Ty) : PCall Tryz.prog 23 [.val (.string s), .seq 4 (Ty.cellss l)] (.agg (tyc s l).cells) := by
 simp only [tyc, Ty.cells]
 refine Zv Tryz.func23 J (by kernel_rfl) J (Uk J) ?_
 refine Ye (Zg (Zc (Za 4 J J J (Zy (cs' := [_, _, _, _]) J tz_25 J J ?_)))); intro b4
 refine Vx (Zb (Zg (Zc (Za 5 J J J (Zd J J (Za 6 J J J (Zd J J (Za 7 J J J (Yo (ns := [0, 1, 3]) (xs := [.const (.int .i64 3), .tmp 5, .tmp 6]) J tz_25 J tfl_25 J J J J (Zt J J (Zr (cs' := [_, _, _, _]) (i := 0) J ts_25 J J J J J (Uk J) J (Vx (Zb ?_)))))))))))))
 exact Ya (Ym (i := 0) J J J Xt J (Ue _) (Vz _) ⟨J, J⟩)
set_option maxHeartbeats 4000000 in
set_option maxRecDepth 100000 in
theorem awake_c : BCall Tryz.prog 8 [] True := by
 have HE := Env_c srcB
 rw [src_env] at HE
 have H1 := con_c sInt []
 have H2 := con_c sList [tyc sInt []]
 have HP := Prove_c (envOf srcPg) srcC_ok [] 10 (.mk sEq (tyc sList [tyc sInt []])) (by decide) (by decide)
 rw [src_p1] at HP
 have HQ := Prove_c (envOf srcPg) srcC_ok [.mk sOrd (tyv sa)] 10 (.mk sEq (tyv sa)) (by decide) (by decide)
 rw [src_p2] at HQ
 generalize envOf srcPg = v at *
 obtain ⟨da, cl, ins⟩ := v
 simp only [En.cells, tyc, tyv, Ty.cells, Ty.cellss, Pr.cells, Pf.cells, Pf.cellss, Pr.cellss, List.map] at HE H1 H2 HP HQ
 refine Zv Tryz.func8 J (by kernel_rfl) J (Uk J) ?_
 refine Ye (Zg (Zc (Za 0 J J J (Zf J J (Vx (Zb (Zg (Zc (Za 9 J J J (Yn (xs := [.const (.string ⟨#[100, 97, 116, 97, 32, 76, 105, 115, 116, 32, 97, 32, 61, 32, 78, 105, 108, 32, 124, 32, 67, 111, 110, 115, 32, 97, 32, 40, 76, 105, 115, 116, 32, 97, 41, 59, 32, 99, 108, 97, 115, 115, 32, 69, 113, 32, 97, 32, 119, 104, 101, 114, 101, 32, 101, 110, 100, 59, 32, 99, 108, 97, 115, 115, 32, 79, 114, 100, 32, 97, 32, 102, 114, 111, 109, 32, 69, 113, 32, 119, 104, 101, 114, 101, 32, 101, 110, 100, 59, 32, 105, 110, 115, 116, 97, 110, 99, 101, 32, 69, 113, 32, 73, 110, 116, 32, 119, 104, 101, 114, 101, 32, 101, 110, 100, 59, 32, 105, 110, 115, 116, 97, 110, 99, 101, 32, 69, 113, 32, 40, 76, 105, 115, 116, 32, 97, 41, 32, 102, 114, 111, 109, 32, 69, 113, 32, 97, 32, 119, 104, 101, 114, 101, 32, 101, 110, 100, 59, 32, 105, 110, 115, 116, 97, 110, 99, 101, 32, 79, 114, 100, 32, 40, 76, 105, 115, 116, 32, 97, 41, 32, 102, 114, 111, 109, 32, 79, 114, 100, 32, 97, 32, 119, 104, 101, 114, 101, 32, 101, 110, 100, 59]⟩)]) J J (HE) by1 ?_))))))))))
 refine Za 8 J J J (Zd J J (Za 10 J J J (Xa J J J (Za 11 J J J (Xa J J J (Za 1 J J J (Zy (cs' := [_, _, _]) J tz_38 J J ?_))))))); intro b1
 refine Zt J J (Zr (cs' := [_, _, _]) (i := 0) J ts_38 J J J J J (Uk J) J (Za 2 J J J (Zf J J (Vx (Zb (Zg (Wc [0, 1, 2, 3, 4, 5, 6, 7, 8, 9, 10, 11] [9, 10] [[], [], [1], [1, 2], [1, 2, 3], [0, 1, 2, 3, 4], [0, 1, 2, 3, 4, 5], [0, 1, 2, 3, 4, 5, 6], [0, 1, 2, 3, 4, 5, 6], [], [0, 1, 2, 3, 4, 5, 6, 7, 9], [0, 1, 2, 3, 4, 5, 6, 7, 8, 9, 10]] Wi J (Yc 13 (some 0) (i := 0) J J J J J (Zx (cs' := [_, _, _]) (i := 0) J Wb J J J J ⟨J, J⟩) ?_))))))))
 refine Yc 14 (none) (i := 1) J J J J J (Yn (xs := [.const (.string ⟨#[73, 110, 116]⟩), .const (.slice none 0 0)]) J J (H1) by1 ⟨J, J⟩) ?_
 refine Yc 15 (none) (i := 2) J J J J J (Yh (xs := [.tmp 14]) el_23 J J J J J J (Uk J) ⟨J, J⟩) ?_
 refine Yc 16 (none) (i := 3) J J J J J (Yn (xs := [.const (.string ⟨#[76, 105, 115, 116]⟩), .tmp 15]) J J (H2) by1 ⟨J, J⟩) ?_
 refine Yc 17 (none) (i := 4) J J J J J (Yo (ns := [0, 1]) (xs := [.const (.string ⟨#[69, 113]⟩), .tmp 16]) J tz_27 J tfl_27 J J J J ⟨J, J⟩) ?_
 refine Yc 18 (none) (i := 5) J J J J J (Yn (xs := [.tmp 13, .const (.slice none 0 0), .tmp 17]) J J (HP) by1 ⟨J, J⟩) ?_
 refine Yc 12 (none) (i := 6) J J J J J (Zd J J ⟨J, J⟩) ?_
 refine Yc 19 (none) (i := 7) J J J J J (Xa J J J ⟨J, J⟩) ?_
 refine Yc 20 (none) (i := 8) J J J J J (Xa J J J ⟨J, J⟩) ?_
 refine EOps.nw (i := 9) J J J (Zy (cs' := [_, _, _, _]) J tz_30 J J (fun b3 => ⟨_, J, ?_⟩))
 refine Xo 1 (i := 10) J J J J J (Zr (cs' := [_, _, _, _]) (i := 0) J ts_30 J J J J J (Uk J) J ⟨_, J, ?_⟩)
 refine Yc 4 (none) (i := 11) J J J J J (Zf J J ⟨J, J⟩) ?_
 show AGo _ _ _ _ _ _ _
 refine Zb (Zg (Zc (Za 21 J J J (Yo (ns := [0, 1]) (xs := [.const (.int .i64 1), .const (.string ⟨#[97]⟩)]) J tz_25 J tfl_25 J J J J ?_))))
 refine Za 5 J J J (Zy (cs' := [_, _, _, _]) J tz_25 J J ?_); intro b5
 refine Zt J J (Zr (cs' := [_, _, _, _]) (i := 0) J ts_25 J J J J J (Uk J) J (Vx (Zb (Zg (Zc (Za 23 J J J (Zx (cs' := [_, _, _]) (i := 1) J Wb J J J J (Za 24 J J J (Zx (cs' := [_, _, _, _]) (i := 0) J Xt J J J J (Za 25 J J J (Yo (ns := [0, 1]) (xs := [.const (.string ⟨#[79, 114, 100]⟩), .tmp 24]) J tz_27 J tfl_27 J J J J ?_)))))))))))
 refine Za 26 J J J (Yh (xs := [.tmp 25]) el_22 J J J J J J (Uk J) (Za 27 J J J (Zx (cs' := [_, _, _, _]) (i := 0) J Xt J J J J (Za 28 J J J (Yo (ns := [0, 1]) (xs := [.const (.string ⟨#[69, 113]⟩), .tmp 27]) J tz_27 J tfl_27 J J J J ?_)))))
 refine Za 29 J J J (op_callat [] (xs := [.tmp 23, .tmp 26, .tmp 28])  J J J HQ by0 ?_)
 rintro v29 M29 ⟨rfl, rfl⟩
 refine Za 22 J J J (Zd J J (Za 30 J J J (Xa J J J (Za 31 J J J (Xa J J J (Za 6 J J J (Zy (cs' := [_, _, _, _]) J tz_30 J J ?_))))))); intro b6
 refine Zt J J (Zr (cs' := [_, _, _, _]) (i := 0) J ts_30 J J J J J (Uk J) J (Za 7 J J J (Zf J J (Vx (Zb (Zg (Xm 0 (True) ?_ _ _ J ?_)))))))
 ·skip
  refine Za 32 J J J (Zd J J (Za 33 J J J (Zd J J (Zo 34 J J J J J (Zd J J (Za 35 J J J (Zm J J J (Za 36 J J J (Zd J J (Zo 37 J J J J J (Zd J J ?_)))))))))))
  refine Za 38 J J J (Zm J J J (Za 39 J J J (Zd J J (Zo 40 J J J J J (Zh J Wp J (Zo 41 J J J J J (Zp (i := 3) J Yz J J J (Zo 42 J J J J J (Yk J J J ?_))))))))); intro c42 h42
  refine Za 43 J J J (Zm J J J (Za 44 J J J (Zd J J ?_)))
  rcases Zi h42 with ⟨rfl, g42⟩ | ⟨rfl, g42⟩
  ·skip
   refine Zl 45 J J J J J (Zl 46 J J J J J (Zl 47 J J J J J (Zl 48 J J J J J (Za 49 J J J (Zm J J J (Za 50 J J J (Zd J J ?_)))))))
   refine Zl 51 J J J J J (Zl 52 J J J J J (Zl 53 J J J J J (Zl 54 J J J J J (Zl 55 J J J J J (Zl 56 J J J J J ?_)))))
   refine Za 57 J J J (Zm J J J (Za 58 J J J (Zd J J (Zl 59 J J J J J (Zl 60 J J J J J (Zl 61 J J J J J (Za 62 J J J (Zm J J J ?_))))))))
   refine Za 63 J J J (Zd J J (Zl 64 J J J J J (Zl 65 J J J J J (Zl 66 J J J J J (Zl 67 J J J J J (Za 68 J J J (Zm J J J ?_)))))))
   refine Za 69 J J J (Zd J J (Zl 70 J J J J J (Zl 71 J J J J J (Zl 72 J J J J J (Zl 73 J J J J J (Zl 74 J J J J J ?_))))))
   refine Zl 75 J J J J J (Za 76 J J J (Zm J J J (Za 0 J J J (Zf J J (Vx (Ui J ?_ by5 by3))))))
   simp_all
  ·skip
   refine Zo 45 J J J J J (Zh J Vj J (Zo 46 J J J J J (Zp (i := 3) J ta_28 J J J ?_)))
   refine Zo 47 J J J J J (Yv J tu_28 J (.seq _ _) (fun n47 => ?_))
   refine Zo 48 J J J J J (Yk J J J ?_); intro c48 h48
   refine Za 49 J J J (Zm J J J (Za 50 J J J (Zd J J ?_)))
   rcases Zi h48 with ⟨rfl, g48⟩ | ⟨rfl, g48⟩
   ·skip
    refine Zl 51 J J J J J (Zl 52 J J J J J (Zl 53 J J J J J (Zl 54 J J J J J (Zl 55 J J J J J (Zl 56 J J J J J ?_)))))
    refine Za 57 J J J (Zm J J J (Za 58 J J J (Zd J J (Zl 59 J J J J J (Zl 60 J J J J J (Zl 61 J J J J J (Za 62 J J J (Zm J J J ?_))))))))
    refine Za 63 J J J (Zd J J (Zl 64 J J J J J (Zl 65 J J J J J (Zl 66 J J J J J (Zl 67 J J J J J (Za 68 J J J (Zm J J J ?_)))))))
    refine Za 69 J J J (Zd J J (Zl 70 J J J J J (Zl 71 J J J J J (Zl 72 J J J J J (Zl 73 J J J J J (Zl 74 J J J J J ?_))))))
    refine Zl 75 J J J J J (Za 76 J J J (Zm J J J (Za 0 J J J (Zf J J (Vx (Ui J ?_ by5 by3))))))
    simp_all
   ·skip
    refine Zo 51 J J J J J (Zh J Vj J (Zo 52 J J J J J (Zp (i := 3) J ta_28 J J J ?_)))
    refine Zo 53 J J J J J (Yd (i := 0) J te_28 J (.seq _ _) J J (by first | rfl | assumption) ?_)
    refine Zo 54 J J J J J (Zj J Wp J J (Zo 55 J J J J J (Zn J Yz J J (Zo 56 J J J J J (Yk J J J ?_))))); intro c56 h56
    refine Za 57 J J J (Zm J J J (Za 58 J J J (Zd J J ?_)))
    rcases Zi h56 with ⟨rfl, g56⟩ | ⟨rfl, g56⟩
    ·skip
     refine Zl 59 J J J J J (Zl 60 J J J J J (Zl 61 J J J J J (Za 62 J J J (Zm J J J (Za 63 J J J (Zd J J (Zl 64 J J J J J ?_)))))))
     refine Zl 65 J J J J J (Zl 66 J J J J J (Zl 67 J J J J J (Za 68 J J J (Zm J J J (Za 69 J J J (Zd J J (Zl 70 J J J J J ?_)))))))
     refine Zl 71 J J J J J (Zl 72 J J J J J (Zl 73 J J J J J (Zl 74 J J J J J (Zl 75 J J J J J (Za 76 J J J (Zm J J J ?_))))))
     refine Za 0 J J J (Zf J J (Vx (Ui J ?_ by5 by3)))
     simp_all
    ·skip
     refine Zo 59 J J J J J (Zh J Wp J (Zo 60 J J J J J (Zp (i := 0) J Yz J J J (Zo 61 J J J J J (Yk J J J ?_))))); intro c61 h61
     refine Za 62 J J J (Zm J J J (Za 63 J J J (Zd J J ?_)))
     rcases Zi h61 with ⟨rfl, g61⟩ | ⟨rfl, g61⟩
     ·skip
      refine Zl 64 J J J J J (Zl 65 J J J J J (Zl 66 J J J J J (Zl 67 J J J J J (Za 68 J J J (Zm J J J (Za 69 J J J (Zd J J ?_)))))))
      refine Zl 70 J J J J J (Zl 71 J J J J J (Zl 72 J J J J J (Zl 73 J J J J J (Zl 74 J J J J J (Zl 75 J J J J J ?_)))))
      refine Za 76 J J J (Zm J J J (Za 0 J J J (Zf J J (Vx (Ui J ?_ by5 by3)))))
      simp_all
     ·skip
      refine Zo 64 J J J J J (Zh J Vj J (Zo 65 J J J J J (Zp (i := 0) J ta_28 J J J ?_)))
      refine Zo 66 J J J J J (Yv J tu_28 J (.seq _ _) (fun n66 => ?_))
      refine Zo 67 J J J J J (Yk J J J ?_); intro c67 h67
      refine Za 68 J J J (Zm J J J (Za 69 J J J (Zd J J ?_)))
      rcases Zi h67 with ⟨rfl, g67⟩ | ⟨rfl, g67⟩
      ·skip
       refine Zl 70 J J J J J (Zl 71 J J J J J (Zl 72 J J J J J (Zl 73 J J J J J (Zl 74 J J J J J (Zl 75 J J J J J ?_)))))
       refine Za 76 J J J (Zm J J J (Za 0 J J J (Zf J J (Vx (Ui J ?_ by5 by3)))))
       simp_all
      ·skip
       refine Zo 70 J J J J J (Zh J Vj J (Zo 71 J J J J J (Zp (i := 0) J ta_28 J J J ?_)))
       refine Zo 72 J J J J J (Yd (i := 0) J te_28 J (.seq _ _) J J (by first | rfl | assumption) ?_)
       refine Zo 73 J J J J J (Zj J Wp J J (Zo 74 J J J J J (Zn J Yz J J (Zo 75 J J J J J (Yk J J J ?_))))); intro c75 h75
       refine Za 76 J J J (Zm J J J (Za 0 J J J (Zf J J (Vx (Ui J ?_ by5 by3)))))
       simp_all
 intro c0 h0
 exact Zb (Ya (Yf J J (Ue _) by3 ⟨⟨_, h0, J⟩, J⟩))
end Go.Proofs.YtknodnfbaofngaaGreat
namespace Go.Proofs.YtknodnfbaofngaaGreat
open Go.ChangeShapes Go.WideShapes Go.ChangeAt Go.RowKit
set_option maxHeartbeats 4000000 in
set_option maxRecDepth 100000 in
theorem EntailHolds_c (s : ByteArray) (a : Ask) : ACall Tryz.prog 4 [.val (.string s), .agg a.cells] [] (fun v _ => v = .val (.bool true)) := by
 have HE := Env_c s
 have HS := askSmall_c a
 have hok := envR_ok (s := s)
 obtain ⟨⟨v, c17⟩, he⟩ : ∃ e, envR s = e := ⟨_, rfl⟩
 rw [he] at HE hok
 simp only [] at HE hok
 have hsz : a.small → a.p.t.size ≤ 1000000 := fun h => by have := (Ty.small_size (by decide) h.2.2.1).1; omega
 have HP := fun (h : c17 = true) (hs : a.small) => Holds_c v (hok h).1 a.gs a.x.size a.x (Nat.le_refl _) a.p (hsz hs)
 have HR := fun (h : c17 = true) (hs : a.small) => rHolds_c v (hok h).1 a.gs a.x.size a.x (Nat.le_refl _) a.p
 have HN := fun (h : c17 = true) (hs : a.small) => Needs_c v (hok h).1.g a.x.n a.p.t (hsz hs)
 have HM := fun (h : c17 = true) (hs : a.small) => rNeeds_c v (hok h).1.g a.x.n a.p.t
 have HX := rSamePreds_c (needsR v a.x.n a.p.t)
 clear hok hsz
 generalize needsR v a.x.n a.p.t = l at *
 generalize holdsP v a.gs a.x a.p = hp at *
 clear he
 generalize a.small = sm at *
 obtain ⟨da, cl, ins⟩ := v
 obtain ⟨gs, ⟨pc, ⟨pk, ps, pn, pl⟩⟩, ⟨xk, xn, xc, xl⟩, deep, most⟩ := a
 simp only [Ask.cells, Pf.n, Pr.t, En.cells, Pr.cells, Ty.cells, Pf.cells, List.cons_append, List.nil_append] at *
 refine Zv Tryz.func4 J (by kernel_rfl) J (Uk J) ?_
 refine Ye (Zg (Zc (Za 3 J J J (Yj (cs' := [_, _, _, _, _, _, _, _, _, _, _, _]) J J J J (Za 4 J J J (Zf J J (Vx (Zb (Zg (Zg (Zc (Za 7 J J J (Yn (xs := []) J J (awake_c.yes trivial) by1 ?_)))))))))))))
 refine Za 8 J J J (Wf J J ?_); intro c8 h8
 try replace h8 := nott h8 h7
 refine Vx (Zb ?_)
 rcases Zi h8 with ⟨rfl, g8⟩ | ⟨rfl, g8⟩
 ·refine Zq J (Zw (Zb (Zg (Zc (Za 10 J J J (Zd J J (Za 11 J J J (Yn (xs := [.tmp 10]) J J (HE) by1 ?_))))))))
  refine Za 9 J J J (Zd J J (Za 12 J J J (Xa J J J (Za 13 J J J (Xa J J J (Za 5 J J J (Zy (cs' := [_, _, _]) J tz_38 J J ?_))))))); intro b5
  refine Zt J J (Zr (cs' := [_, _, _]) (i := 0) J ts_38 J J J J J (Uk J) J (Za 6 J J J (Zf J J (Vx (Zb (Zg (Zg (Xm 20 (c17 = false ∨ ¬ sm) ?_ _ _ J ?_))))))))
  ·skip
   refine Za 14 J J J (Zd J J (Za 15 J J J (Wf J J ?_))); intro c15 h15
   try replace h15 := nott h15 h13
   refine Za 16 J J J (Zd J J ?_)
   rcases Zi h15 with ⟨rfl, g15⟩ | ⟨rfl, g15⟩
   ·skip
    refine Zo 17 J J J J J (Yb (cs' := [_, _, _, _, _, _, _, _, _, _, _, _]) J ta_32 J J J (Zo 18 J J J J J (Yg (xs := [.tmp 17]) J J (HS) by1 ?_))); intro c18 h18
    refine Zo 19 J J J J J (Wf J J ?_); intro c19 h19
    try replace h19 := nott h19 h18
    refine Za 20 J J J (Zm J J J (Vx (Ui J ?_ by5 by3)))
    clear HE HS HP HR HX HN HM; first | (simp_all; done) | grind
   ·skip
    refine Zl 17 J J J J J (Zl 18 J J J J J (Zl 19 J J J J J (Za 20 J J J (Zm J J J (Vx (Ui J ?_ by5 by3))))))
    clear HE HS HP HR HX HN HM; first | (simp_all; done) | grind
  intro c20 h20
  refine Zb ?_
  rcases Zi h20 with ⟨rfl, g20⟩ | ⟨rfl, g20⟩
  ·refine Zq J (Zw (Zb (Zg ?_)))
   obtain ⟨h17, hsm⟩ : c17 = true ∧ sm := by
    clear HE HS HP HR HX HN HM
    cases c17 <;> simp_all
   have HP1 := HP h17 hsm
   have HR1 := HR h17 hsm
   have HN1 := HN h17 hsm
   have HM1 := HM h17 hsm
   refine Wk 4 (True) Wi J ?_ _ _ J ?_
   ·skip
    refine Zk 21 J J (Zx (cs' := [_, _, _]) (i := 0) J Wb J J J J ⟨J, J⟩) ?_
    refine Zk 22 J J (Zj J tf_32_0 J J ⟨J, J⟩) ?_
    refine Zk 23 J J (Zn J ta_22 J J ⟨J, J⟩) ?_
    refine Zk 24 J J (Zj J tf_32_2 J J ⟨J, J⟩) ?_
    refine Zk 25 J J (Yb (cs' := [_, _, _, _]) J Vm J J J ⟨J, J⟩) ?_
    refine Zk 26 J J (Zj J tf_32_1 J J ⟨J, J⟩) ?_
    refine Zk 27 J J (Yb (cs' := [_, _, _, _, _]) J ta_27 J J J ⟨J, J⟩) ?_
    refine Xn 28 J J (fun _ q => Yg (xs := [.tmp 21, .tmp 23, .tmp 25, .tmp 27]) J J (HP1) by1 q) ?_; intro c28 h28
    refine Zk 29 J J (Zx (cs' := [_, _, _]) (i := 0) J Wb J J J J ⟨J, J⟩) ?_
    refine Zk 30 J J (Zj J tf_32_0 J J ⟨J, J⟩) ?_
    refine Zk 31 J J (Zn J ta_22 J J ⟨J, J⟩) ?_
    refine Zk 32 J J (Zj J tf_32_2 J J ⟨J, J⟩) ?_
    refine Zk 33 J J (Yb (cs' := [_, _, _, _]) J Vm J J J ⟨J, J⟩) ?_
    refine Zk 34 J J (Zj J tf_32_1 J J ⟨J, J⟩) ?_
    refine Zk 35 J J (Yb (cs' := [_, _, _, _, _]) J ta_27 J J J ⟨J, J⟩) ?_
    refine Xn 36 J J (fun _ q => Yg (xs := [.tmp 29, .tmp 31, .tmp 33, .tmp 35]) J J (HR1) by1 q) ?_; intro c36 h36
    refine Xn 37 J J (fun _ q => op_beqlc J tu_4 J J q) ?_; intro c37 h37
    refine Zk 38 J J (Zd J J ⟨J, J⟩) ?_
    rcases Zi h37 with ⟨rfl, g37⟩ | ⟨rfl, g37⟩
    ·skip
     refine Ze 39 J J J J (Ze 40 J J J J (Ze 41 J J J J (Ze 42 J J J J (Ze 43 J J J J (Ze 44 J J J J ?_)))))
     refine Ze 45 J J J J (Ze 46 J J J J (Ze 47 J J J J (Ze 48 J J J J (Ze 49 J J J J (Ze 50 J J J J ?_)))))
     refine Ze 51 J J J J (Ze 52 J J J J (Ze 53 J J J J (Ze 54 J J J J (Ze 55 J J J J (Zk 56 J J (Zm J J J ⟨J, J⟩) ?_)))))
     refine Zk 4 J J (Zf J J ⟨J, J⟩) ?_
     show BoolQ _ _ _ _ _ _
     refine Ui J ?_ by5 by3
     clear HE HS HP HR HX HN HM HP1 HR1 HN1 HM1; first | (simp_all; done) | grind
    ·skip
     refine Zs 39 J J J J (Zx (cs' := [_, _, _]) (i := 0) J Wb J J J J ⟨J, J⟩) ?_
     refine Zs 40 J J J J (Zj J tf_32_2 J J ⟨J, J⟩) ?_
     refine Zs 41 J J J J (Zj J Xu J J ⟨J, J⟩) ?_
     refine Zs 42 J J J J (Zn J Yz J J ⟨J, J⟩) ?_
     refine Zs 43 J J J J (Zj J tf_32_1 J J ⟨J, J⟩) ?_
     refine Zs 44 J J J J (Zj J Wa J J ⟨J, J⟩) ?_
     refine Zs 45 J J J J (Yb (cs' := [_, _, _, _]) J Xt J J J ⟨J, J⟩) ?_
     refine Zs 46 J J J J (Yn (xs := [.tmp 39, .tmp 42, .tmp 45]) J J (HN1) by1 ⟨J, J⟩) ?_
     refine Zs 47 J J J J (Zx (cs' := [_, _, _]) (i := 0) J Wb J J J J ⟨J, J⟩) ?_
     refine Zs 48 J J J J (Zj J tf_32_2 J J ⟨J, J⟩) ?_
     refine Zs 49 J J J J (Zj J Xu J J ⟨J, J⟩) ?_
     refine Zs 50 J J J J (Zn J Yz J J ⟨J, J⟩) ?_
     refine Zs 51 J J J J (Zj J tf_32_1 J J ⟨J, J⟩) ?_
     refine Zs 52 J J J J (Zj J Wa J J ⟨J, J⟩) ?_
     refine Zs 53 J J J J (Yb (cs' := [_, _, _, _]) J Xt J J J ⟨J, J⟩) ?_
     refine Zs 54 J J J J (Yn (xs := [.tmp 47, .tmp 50, .tmp 53]) J J (HM1) by1 ⟨J, J⟩) ?_
     refine Yy 55 J J J J (fun _ q => Yg (xs := [.tmp 46, .tmp 54]) J J (HX) by1 q) ?_; intro c55 h55
     refine Zk 56 J J (Zm J J J ⟨J, J⟩) ?_
     refine Zk 4 J J (Zf J J ⟨J, J⟩) ?_
     show BoolQ _ _ _ _ _ _
     refine Ui J ?_ by5 by3
     clear HE HS HP HR HX HN HM HP1 HR1 HN1 HM1; first | (simp_all; done) | grind
   intro c4 h4
   exact Zb (Ya (Yf J J (Ue _) (Vz _) (by simp_all)))
  ·exact Zu J (Zg (Zc (Za 4 J J J (Zf J J (Vx (Zb (Ya (Yf J J (Ue _) (Vz _) J))))))))
 ·refine Zu J (Zg ?_)
  exact absurd g8 (by simp)
theorem entailHolds_own : ownKnob Tryz.prog.godebug = none := by kernel_rfl
theorem entailHolds_laidOut : laidOutB Tryz.prog = true := by kernel_rfl
set_option maxRecDepth 100000 in
theorem entailHolds_lifted (os : Os) (started : os.Started) (H : Type) (enc : TypeId × Value → H) :
    ReturnsInHanded {} Tryz.checked os 4 .any (Rows.entailHoldsSpec.pre6 enc Tryz.prog Tryz.f4 Rows.entailHoldsRow.domain false) (Rows.entailHoldsSpec.post enc Tryz.prog Tryz.f4 false true false false) := by
 refine returnsInHanded_of_change_sized (C := Tryz.checked) entailHolds_own started (by kernel_rfl) Tryz.func4
  (ChangeSpec.witness6 (enc := enc) (C := Tryz.checked) false ⟨#[], #[.string ⟨#[]⟩, .agg #[.slice none 0 0, .string ⟨#[]⟩, .int .i64 0, .string ⟨#[]⟩, .int .i64 0, .slice none 0 0, .int .i64 0, .int .i64 0, .string ⟨#[]⟩, .slice none 0 0, .int .i64 0, .int .i64 0]], []⟩ 8 (by kernel_rfl) (by kernel_rfl) (by kernel_rfl) (by kernel_rfl)) ?_
 intro W base args ds gs before hval0 hW hcnd hsz0 _
 have hval : ∀ (j : Nat) t v, Tryz.f4.params[j]? = some t → args[j]? = some v → Value.okWide Tryz.prog W .any base t v := hval0
 have hsz : (DataW.weightsEach Tryz.prog (Tryz.f4.params.toList ++ Rows.entailHoldsSpec.plain.varTypes Tryz.prog) (ds ++ gs)).all (· ≤ reachBytes) = true := hsz0
 have hW' := hW
 obtain ⟨p, q, hA0, hV, rfl, hfz, hnd⟩ := hW
 have hA : DataW.TrodAll enc Tryz.prog W 0 (fun _ => true) true Tryz.f4.params.toList args.toList ds p := hA0
 rw [Tryz.params4] at hA hval hsz
 obtain ⟨rfl, rfl⟩ := trodVars_none hV
 obtain ⟨v0, v1, d0, d1, p0, p1, rfl, rfl, rfl, h0, h1⟩ := trodAll_two hA
 obtain ⟨f0, c0, s0, r0, o0⟩ := open_one closed12 (by decide) h0
 obtain ⟨s, l0, rfl⟩ := shape_str Wx s0
 obtain ⟨f1, c1, s1, r1, o1⟩ := open_one closed12 (by decide) h1
 obtain ⟨a, rfl⟩ := shape_ask s1
 refine (law_run (EntailHolds_c s a) (.cons (rel_cell (okw_str Tryz.underlying9 (hval 0 9 v0 rfl rfl)) r0) (.cons (rel_agg' (by rw [Ask.cells_len]; decide) r1 o1) .nil))).mono fun e W' ⟨he, hb⟩ => ?_
 subst he
 exact ⟨_, J, law_post (tb := 4) entailHolds_laidOut (by kernel_rfl) (by kernel_rfl) Tryz.underlying4 J J J J hW' hb⟩
theorem entailHolds_holds : Rows.EntailHoldsSaid :=
 OpenClaim.holds_of_wide 4 Tryz.f4 rfl rfl rfl rfl rfl rfl rfl ⟨rfl, rfl, rfl, rfl, rfl⟩ rfl rfl rfl rfl rfl (by kernel_rfl) Tryz.func4 (by kernel_rfl)
  (of_decide_eq_true (by kernel_rfl)) (by unfold Func.isWrapper; first | (rw [if_pos (by decide +kernel)]; kernel_rfl) | (rw [if_neg (by decide +kernel)]; exact ⟨rfl, rfl⟩))
  (fun os started H enc _ => entailHolds_lifted os started H enc)
#print axioms entailHolds_holds
end Go.Proofs.YtknodnfbaofngaaGreat
