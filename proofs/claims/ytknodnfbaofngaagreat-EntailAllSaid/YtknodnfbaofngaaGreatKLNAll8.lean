/- EntailAll: of any right declarations the first proofs of any pred are the document's. -/
import Derived.Test.YtknodnfbaofngaaGreatKLNAll7
import Derived.Test.YtknodnfbaofngaaGreatChecked
import Derived.Test.YtknodnfbaofngaaGreatRows
set_option maxRecDepth 100000
set_option maxHeartbeats 4000000
namespace Go.Proofs.YtknodnfbaofngaaGreat
open Go.RowKit
theorem paramsL_go {L : List Tok} {f : Nat} {p : PS} {acc : List ByteArray} (h : (nxt L p).k = 1) : paramsL L (f + 1) p acc = paramsL L f (takeP L p 1 kE).2 (acc ++ [(takeP L p 1 kE).1.t]) := by rw [paramsL, if_pos h]
theorem paramsL_end {L : List Tok} {f : Nat} {p : PS} {acc : List ByteArray} (h : ¬ (nxt L p).k = 1) : paramsL L f p acc = (acc, p) := by
 cases f with
 | zero => rfl
 | succ f => rw [paramsL, if_neg h]
theorem consL_err {L : List Tok} {f : Nat} {p : PS} {acc : List Cn} (h : p.e ≠ 0) : consL L f p acc = (acc, p) := by
 cases f with
 | zero => rfl
 | succ f => rw [consL, if_pos h]
abbrev zDa : List AV := [.val (.string kE), .val (.slice none 0 0), .val (.slice none 0 0), .val (.slice none 0 0), .val (.int .i64 0)]
theorem data_c (b : Nat) (L : List Tok) (hL : L.length ≤ 100000) (p : PS) (k : POk L 302 p) : MCall Tryz.prog 52 [.ptr b 0] (.loc b (psC L p)) (.agg (dataP L p).1.cells) (.loc b (psC L (dataP L p).2)) := by
 have H1 := take_c b L hL p k.1 2 kE
 have k1 := (Yo (kind := 2) (s := kE) (by decide) k).ok k
 obtain ⟨r, hr⟩ : ∃ r, dataP L p = r := ⟨_, rfl⟩
 rw [hr]
 unfold dataP at hr
 simp only [] at hr
 obtain ⟨⟨⟨tk, tt, tn, ta⟩, p1⟩, e1⟩ : ∃ r, takeP L p 2 kE = r := ⟨_, rfl⟩
 rw [e1] at H1 k1 hr
 simp only [Tok.av] at H1 k1 hr
 have k2 := (paramsL_adv (L.length + 1) p1 [] k1).ok k1
 obtain ⟨⟨ps, p2⟩, e2⟩ : ∃ r, paramsL L (L.length + 1) p1 [] = r := ⟨_, rfl⟩
 rw [e2] at k2 hr
 simp only [] at k2 hr
 have H3 := take_c b L hL p2 k2.1 7 kEq
 have k3 := (Yo (kind := 7) (s := kEq) (by decide) k2).ok k2
 obtain ⟨⟨u3, p3⟩, e3⟩ : ∃ r, takeP L p2 7 kEq = r := ⟨_, rfl⟩
 rw [e3] at H3 k3 hr
 simp only [] at H3 k3 hr
 have k4 := (consL_adv (L.length + 1) p3 [] k3).ok k3
 obtain ⟨⟨cl, p4⟩, e4⟩ : ∃ r, consL L (L.length + 1) p3 [] = r := ⟨_, rfl⟩
 rw [e4] at k4 hr
 simp only [] at k4 hr
 unfold derivP at hr
 refine Zu Tryz.func52 V (by kernel_rfl) V (Ud V) ?_
 refine Yf (Zf (Zc (Za 2 V V V (Zy (cs' := [_, _, _, _, _]) V tz_102 V V ?_)))); intro b2
 refine Vq (Zb (Zf (Zc (Za 8 V V V (Zd V V (Za 9 V V V (Yi (xs := [.tmp 8, .const (.int .i64 2), .const (.string ⟨#[]⟩)]) (i := 1) V V V (H1) by1 ?_)))))))
 refine Za 3 V V V (Zy (cs' := [_, _, _, _]) V Wj V V ?_); intro b3
 refine Zq V V (Zm (cs' := [_, _, _, _]) (i := 0) V Xk V V V V V (Ud V) V (Vq (Zb (Zf (Zc (Za 10 V V V (Zg V Xi V (Za 11 V V V (Zl (i := 0) V Xd V V V (Za 12 V V V (Zg V Ww V (Za 13 V V V (Zl (i := 0) V Xf V V V (Za 14 V V V (Yj (ns := [0, 4]) (xs := [.tmp 11, .tmp 13]) V tz_102 V tfl_102 V V V V (Za 4 V V V (Zy (cs' := [_, _, _, _, _]) V tz_102 V V ?_))))))))))))))))); intro b4
 refine Zq V V (Zm (cs' := [_, _, _, _, _]) (i := 0) V ts_102 V V V V V (Ud V) V (Vq (Zb (Zf (Zw (Xx 9 1 ?_))))))
 apply Xp [1, 3, 8, 9, 10, 11, 12, 13, 14, 15, 16, 17, 18, 19, 20, 21, 22, 23, 24, 25, 26, 28, 64, 69] (σ := PS × Nat × List ByteArray × Value) (fun zz => match zz with | (q, f, acc, u) => []) (fun zz => match zz with | (q, f, acc, u) => [.loc b4 [.val (.string tt), .own u 1 (strs acc), .val (.slice none 0 0), .val (.slice none 0 0), .val (.int .i64 ta)], .loc b3 (Tok.mk tk tt tn ta).av, .loc b2 zDa, .loc b (psC L q), .own 9 1 u]) (fun zz => match zz with | (q, f, acc, u) => POk L 302 q ∧ L.length - q.at_ < f ∧ acc.length ≤ q.at_ ∧ paramsL L f q acc = (ps, p2)) (fun zz => match zz with | (q, f, acc, u) => f) ((p1, L.length + 1, [], .slice none 0 0))
 ·repeat' (first | exact Ug | apply Ue rfl | apply Uf rfl)
 ·exact ⟨k1, by omega, Nat.zero_le _, e2⟩
 ·exact by4
 ·exact (Vv _ (Vz (Vx _) (Vz (Le.nilOwn 1) (Vy _))) (Vt _ (Vw V)))
 rintro ⟨q, f, acc, u⟩ hI
 try dsimp only [List.cons_append, List.nil_append] at hI ⊢
 obtain ⟨i1, i2, i3, hu⟩ := hI
 have hq1 := i1.1
 have hle : (strs acc).length ≤ 200000 := by rw [Xy]; omega
 have HN := next_c b L q
 have hkn : (nxt L q).k = 1 → q.at_ < L.length := fun e => (Vp (by omega)).2
 have hgo := fun f => paramsL_go (L := L) (f := f) (p := q) (acc := acc)
 have hend := paramsL_end (L := L) (f := f) (p := q) (acc := acc)
 have htk := fun h : (nxt L q).k = 1 => take_k (s := kE) h (by decide) (by decide)
 obtain ⟨⟨qk, qt, qn, qa⟩, hqt⟩ : ∃ t, nxt L q = t := ⟨_, rfl⟩
 rw [hqt] at HN hkn hgo hend htk
 simp only [Tok.av] at HN hkn hgo hend htk
 refine Zf (Zf (Zc (Za 15 V V V (Zd V V (Za 16 V V V (Ws (xs := [.tmp 15]) [3] V V V (HN) by1 ?_))))))
 refine Za 17 V V V (Vb (ft := 3) (fo := 0) V (by kernel_rfl) Xf V V ?_)
 refine Za 18 V V V (Yw V V V ?_); intro c18 h18
 refine Vq (Zb ?_)
 rcases Zh h18 with ⟨rfl, g18⟩ | ⟨rfl, g18⟩
 ·refine Zn V (Yy (Xa (Xs (Yz (Zb (Zf ?_))))))
  rw [hend g18] at hu
  simp only [Prod.mk.injEq] at hu
  obtain ⟨rfl, rfl⟩ := hu
  refine Zc (Za 27 V V V (Zd V V (Za 28 V V V (Yi (xs := [.tmp 27, .const (.int .i64 7), .const (.string ⟨#[61]⟩)]) (i := 3) V V V (H3) by1 ?_))))
  refine Vq (Zb (Zf (Zc (Za 5 V V V (Ze V V (Vq (Zb (Zf (Zw (Xx 140 3 ?_))))))))))
  apply Xp [1, 3, 5, 6, 7, 8, 9, 10, 11, 12, 13, 14, 15, 16, 17, 18, 19, 20, 21, 22, 23, 24, 25, 26, 27, 28, 29, 30, 31, 32, 33, 34, 35, 36, 37, 38, 39, 40, 41, 42, 43, 44, 45, 46, 47, 48, 49, 50, 51, 52, 53, 54, 55, 56, 57, 58, 59, 60, 64, 69] (σ := PS × Nat × List Cn × Value × Bool) (fun zz => match zz with | (q, f, cs, w, mo) => [(5, .val (.bool mo))]) (fun zz => match zz with | (q, f, cs, w, mo) => [.loc b4 [.val (.string tt), .seq 1 (strs acc), .own w 3 (Cn.cellss cs), .val (.slice none 0 0), .val (.int .i64 ta)], .loc b3 (Tok.mk tk tt tn ta).av, .loc b2 zDa, .loc b (psC L q), .own 140 3 w]) (fun zz => match zz with | (q, f, cs, w, mo) => POk L 302 q ∧ L.length - q.at_ < f ∧ (mo = true → cs.length ≤ q.at_) ∧ (if mo = true then consL L f q cs else (cs, q)) = (cl, p4)) (fun zz => match zz with | (q, f, cs, w, mo) => 2 * f + (if mo = true then 1 else 0)) ((p3, L.length + 1, [], .slice none 0 0, true))
  ·repeat' (first | exact Ug | apply Ue rfl | apply Uf rfl)
  ·exact ⟨k3, by omega, fun _ => Nat.zero_le _, e4⟩
  ·exact by4
  ·exact (Vv _ (Vz (Vx _) (Vz (Le.own_seq V) (Vz (Le.nilOwn 3) (Vy _)))) (Vt _ (Vt _ (Vt _ (Vu _ (Vr _))))))
  rintro ⟨q, f, cs, w, mo⟩ hI
  try dsimp only [List.cons_append, List.nil_append] at hI ⊢
  obtain ⟨i1, i2, i3, hu⟩ := hI
  have hq1 := i1.1
  refine Zf (Zf (Xj 36 (mo = true ∧ q.e = 0) ?_ _ _ V ?_))
  ·skip
   refine Za 29 V V V (Zd V V (Za 30 V V V (Zd V V ?_)))
   have h30 : (mo = true ↔ mo = true) := Iff.rfl
   rcases Zh h30 with ⟨rfl, g30⟩ | ⟨rfl, g30⟩
   ·skip
    refine Zi 31 V V V V V (Zi 32 V V V V V (Zi 33 V V V V V (Zi 34 V V V V V (Zi 35 V V V V V (Za 36 V V V (Zo V V V (Vq (Ub V ?_ by5 by3))))))))
    simp_all; done
   ·skip
    refine Zk 31 V V V V V (Zd V V (Zk 32 V V V V V (Yl V V (Zk 33 V V V V V (Zg V Vn V (Zk 34 V V V V V (Zl (i := 3) V Xf V V V (Zk 35 V V V V V (Yw V V V ?_))))))))); intro c35 h35
    refine Za 36 V V V (Zo V V V (Vq (Ub V ?_ by5 by3)))
    simp_all; done
  intro c36 h36
  refine Zb ?_
  rcases Zh h36 with ⟨rfl, g36⟩ | ⟨rfl, g36⟩
  ·refine Zn V (Yy (Xa (Xs (Yz (Zb (Zf (Zf ?_)))))))
   have hu2 : (cs, q) = (cl, p4) := by
    cases mo with
    | false => exact hu
    | true => rw [if_pos rfl, consL_err (fun e => g36 ⟨rfl, e⟩)] at hu; exact hu
   simp only [Prod.mk.injEq] at hu2
   obtain ⟨rfl, rfl⟩ := hu2
   refine Zc (Za 61 V V V (Zd V V (Za 62 V V V (op_mayc (xs := [.tmp 61, .const (.string ⟨#[100, 101, 114, 105, 118, 105, 110, 103]⟩)]) (i := 3) V V V (may_c b L hL q kDeriv) by1 ?_ ?_))))
   ·intro g62
    refine Vq (Zb (Zr V (Zf ?_)))
    have kA := (Xo k4 g62).ok k4
    have HD1 := take_c b L hL (stepP q) kA.1 7 kLP
    have kB := (Yo (kind := 7) (s := kLP) (by decide) kA).ok kA
    have HD2 := uppers_c b L hL 302 _ kB
    have kC := (uppers_adv kB).ok kB
    have HD3 := take_c b L hL _ kC.1 7 kRP
    rw [if_pos g62] at hr
    refine Zc (Za 63 V V V (Zd V V (Za 64 V V V (Yi (xs := [.tmp 63, .const (.int .i64 7), .const (.string ⟨#[40]⟩)]) (i := 3) V V V (HD1) by1 ?_))))
    refine Vq (Zb (Zf (Zc (Za 65 V V V (Zd V V (Za 66 V V V (Yi (xs := [.tmp 65]) (i := 3) V V V (HD2) by1 ?_)))))))
    refine Za 67 V V V (Zg V tf_102_3 V (Zq V V (Zm (cs' := [_, _, _, _, _]) (i := 0) V ts_68 V V V V V (Ud V) V (Vq (Zb (Zc (Za 68 V V V (Zd V V (Za 69 V V V (Yi (xs := [.tmp 68, .const (.int .i64 7), .const (.string ⟨#[41]⟩)]) (i := 3) V V V (HD3) by1 ?_))))))))))
    refine Vq (Zb (Zf (Zc (Za 70 V V V (Zx (cs' := [_, _, _, _, _]) (i := 0) V ta_102 V V V V (Zq V V (Zm (cs' := [_, _, _, _, _]) (i := 2) V ts_102 V V V V V (Ud V) V (Vq (Zb (Ya ?_))))))))))
    first
    | (subst hr; exact Ym (i := 2) rfl rfl rfl ta_102 rfl (Le.agg (Vz (Vx _) (Vz (Vx _) (Vz (Le.own_seq rfl) (Vz (Vx _) (Vy _)))))) (Vu _ (Vu _ (Vu _ (Vt _ (Vs _))))) ⟨rfl, rfl⟩)
    | (rw [if_neg g62] at hr; subst hr; exact Ym (i := 2) rfl rfl rfl ta_102 rfl (Le.agg (Vz (Vx _) (Vz (Vx _) (Vz (Le.own_seq rfl) (Vz (Le.nil _) (Vy _)))))) (Vu _ (Vu _ (Vu _ (Vt _ (Vs _))))) ⟨rfl, rfl⟩)
   ·intro g62
    refine Vq (Zb (Zn V (Zt (Zb (Zf (Zc (Za 70 V V V (Zx (cs' := [_, _, _, _, _]) (i := 0) V ta_102 V V V V (Zq V V (Zm (cs' := [_, _, _, _, _]) (i := 2) V ts_102 V V V V V (Ud V) V (Vq (Zb (Ya ?_)))))))))))))
    first
    | (subst hr; exact Ym (i := 2) rfl rfl rfl ta_102 rfl (Le.agg (Vz (Vx _) (Vz (Vx _) (Vz (Le.own_seq rfl) (Vz (Vx _) (Vy _)))))) (Vu _ (Vu _ (Vu _ (Vt _ (Vs _))))) ⟨rfl, rfl⟩)
    | (rw [if_neg g62] at hr; subst hr; exact Ym (i := 2) rfl rfl rfl ta_102 rfl (Le.agg (Vz (Vx _) (Vz (Vx _) (Vz (Le.own_seq rfl) (Vz (Le.nil _) (Vy _)))))) (Vu _ (Vu _ (Vu _ (Vt _ (Vs _))))) ⟨rfl, rfl⟩)
  ·refine Zr V (Zt (Zb (Zw (Zf ?_))))
   obtain ⟨rfl, hq0⟩ := g36
   have i3 := i3 rfl
   have hle : (Cn.cellss cs).length ≤ 200000 := by rw [Cn.cellss_len]; omega
   rw [if_pos rfl] at hu
   obtain ⟨f, rfl⟩ : ∃ f', f = f' + 1 := ⟨f - 1, by omega⟩
   rw [consL, if_neg (by rw [hq0]; simp)] at hu
   have HP := take_c b L hL q i1.1 2 kE
   have l1 := (Yo (kind := 2) (s := kE) (by decide) i1).ok i1
   have b1 := (Yo (L := L) (kind := 2) (s := kE) (by decide) i1).1
   obtain ⟨z, hz⟩ : ∃ z, conP L q = z := ⟨_, rfl⟩
   rw [hz] at hu
   unfold conP at hz
   simp only [] at hz
   obtain ⟨⟨⟨ck, ct, cn, ca⟩, q1⟩, f1⟩ : ∃ r, takeP L q 2 kE = r := ⟨_, rfl⟩
   rw [f1] at HP hz l1 b1
   simp only [Tok.av] at HP hz l1 b1
   have l2 := (typesL_adv typeP_adv' (L.length + 1) q1 [] l1).ok l1
   have b2' := (typesL_adv typeP_adv' (L.length + 1) q1 [] l1).1
   obtain ⟨⟨tys, q2⟩, f2⟩ : ∃ r, typesL L (typeP L) (L.length + 1) q1 [] = r := ⟨_, rfl⟩
   rw [f2] at l2 b2' hz
   simp only [] at l2 b2' hz
   subst hz
   simp only [] at hu
   have l2a := l2.1
   refine Zc (Za 37 V V V (Zd V V (Za 38 V V V (Yi (xs := [.tmp 37, .const (.int .i64 2), .const (.string ⟨#[]⟩)]) (i := 3) V V V (HP) by1 ?_))))
   refine Za 6 V V V (Zy (cs' := [_, _, _, _]) V Wj V V ?_); intro b6
   refine Zq V V (Zm (cs' := [_, _, _, _]) (i := 0) V Xk V V V V V (Ud V) V (Vq (Zb (Zf (Zc (Za 39 V V V (Zg V Xi V (Za 40 V V V (Zl (i := 0) V Xd V V V (Za 41 V V V (Zg V Ww V (Za 42 V V V (Zl (i := 0) V Xf V V V (Za 43 V V V (Yj (ns := [0, 2]) (xs := [.tmp 40, .tmp 42]) V tz_140 V tfl_140 V V V V (Za 7 V V V (Zy (cs' := [_, _, _]) V tz_140 V V ?_))))))))))))))))); intro b7
   refine Zq V V (Zm (cs' := [_, _, _]) (i := 0) V ts_140 V V V V V (Ud V) V (Vq (Zb (Zf (Zw (Xx 25 4 ?_))))))
   apply Xp [1, 3, 8, 9, 10, 11, 12, 13, 14, 15, 16, 17, 18, 19, 20, 21, 22, 23, 24, 25, 26, 27, 28, 44, 45, 46, 47, 48, 49, 50, 51, 52, 64, 69] (σ := PS × Nat × List Ty × Value) (fun zz => match zz with | (s, g, ac, v) => []) (fun zz => match zz with | (s, g, ac, v) => [.loc b7 [.val (.string ct), .own v 4 (Ty.cellss ac), .val (.int .i64 ca)], .loc b6 (Tok.mk ck ct cn ca).av, .loc b4 [.val (.string tt), .seq 1 (strs acc), .own w 3 (Cn.cellss cs), .val (.slice none 0 0), .val (.int .i64 ta)], .loc b3 (Tok.mk tk tt tn ta).av, .loc b2 zDa, .loc b (psC L s), .own 140 3 w, .own 25 4 v]) (fun zz => match zz with | (s, g, ac, v) => POk L 302 s ∧ L.length - s.at_ < g ∧ ac.length ≤ s.at_ ∧ typesL L (typeP L) g s ac = (tys, q2)) (fun zz => match zz with | (s, g, ac, v) => g) ((q1, L.length + 1, [], .slice none 0 0))
   ·repeat' (first | exact Ug | apply Ue rfl | apply Uf rfl)
   ·exact ⟨l1, by omega, Nat.zero_le _, f2⟩
   ·exact by4
   ·exact (Vv _ (Vz (Vx _) (Vz (Le.nilOwn 4) (Vy _))) (Vt _ (Vw V)))
   rintro ⟨s, g, ac, v⟩ hI
   try dsimp only [List.cons_append, List.nil_append] at hI ⊢
   obtain ⟨j1, j2, j3, hv⟩ := hI
   have hs1 := j1.1
   have hlt : (Ty.cellss ac).length ≤ 200000 := by rw [Ty.cellss_len]; omega
   refine Zf (Zf (Zc (Za 44 V V V (Zd V V (Za 45 V V V (op_callkb (xs := [.tmp 44, .const (.int .i64 0)]) [5] V V V (starts_c b L s 0) by1 ?_)))))); intro c45 h45
   refine Vq (Zb ?_)
   rcases Zh h45 with ⟨rfl, g45⟩ | ⟨rfl, g45⟩
   ·refine Zn V (Yy (Xa (Xs (Yz (Zb (Zf ?_))))))
    rw [typesL_end g45] at hv
    simp only [Prod.mk.injEq] at hv
    obtain ⟨rfl, rfl⟩ := hv
    refine c_le (SLe.refl _) (Vv _ (Vz (Vx _) (Vz (Le.own_seq V) (Vy _))) (Vr _)) (Zc (Za 53 V V V (Zg V tf_102_2 V (Za 54 V V V (Zl (i := 2) V ta_100 V V V (Za 55 V V V (Zx (cs' := [_, _, _]) (i := 0) V ta_140 V V V V (Za 56 V V V (Yb (xs := [.tmp 55]) el_100 V V V V V V (Ud V) (Za 57 V V V (Xg (i := 6) el_100 V V V V (.seq _ _) by6 ?_)))))))))))
    intro u57
    refine Za 58 V V V (Zg V tf_102_2 V (Zq V V (Zm (cs' := [_, _, _, _, _]) (i := 2) V ts_100 V V V V V (Ud V) V (Vq (Zb (Zc (Za 59 V V V (Zd V V (Za 60 V V V (op_mayc (xs := [.tmp 59, .const (.string ⟨#[124]⟩)]) (i := 5) V V V (may_c b L hL s kBar) by1 ?_ ?_))))))))))
    ·intro g60
     refine Za 5 V V V (Ze V V (Vq (Yn (Yv ?_))))
     first
     | (rw [if_pos g60] at hu; have l4 := (Xo l2 g60).ok l2; have l5 := (is_lt g60).2; exact ⟨(stepP s, f, cs ++ [Cn.mk ct ac ca], u57, true), ⟨l4, (by show L.length - (s.at_ + 1) < f; omega), (fun _ => by show (cs ++ _).length ≤ s.at_ + 1; rw [List.length_append]; simp; omega), hu⟩, (by show 2 * f + 1 < 2 * (f + 1) + 1; omega), Ua rfl (Vx _) by4, Vu _ (Vu _ (Vv _ (Vz (Vx _) (Vz (Vx _) (Vz (Uc (by simp [Cn.cellss]; rfl)) (Vy _)))) (Vt _ (Vt _ (Vt _ (Vt _ (Vu _ (Vr _))))))))⟩)
     | (rw [if_neg g60] at hu; exact ⟨(s, f + 1, cs ++ [Cn.mk ct ac ca], u57, false), ⟨l2, (by show L.length - s.at_ < f + 1; omega), (fun h => by cases h), hu⟩, (by show 2 * (f + 1) + 0 < 2 * (f + 1) + 1; omega), Ua rfl (Vx _) by4, Vu _ (Vu _ (Vv _ (Vz (Vx _) (Vz (Vx _) (Vz (Uc (by simp [Cn.cellss]; rfl)) (Vy _)))) (Vt _ (Vt _ (Vt _ (Vt _ (Vu _ (Vr _))))))))⟩)
    ·intro g60
     refine Za 5 V V V (Ze V V (Vq (Yn (Yv ?_))))
     first
     | (rw [if_pos g60] at hu; have l4 := (Xo l2 g60).ok l2; have l5 := (is_lt g60).2; exact ⟨(stepP s, f, cs ++ [Cn.mk ct ac ca], u57, true), ⟨l4, (by show L.length - (s.at_ + 1) < f; omega), (fun _ => by show (cs ++ _).length ≤ s.at_ + 1; rw [List.length_append]; simp; omega), hu⟩, (by show 2 * f + 1 < 2 * (f + 1) + 1; omega), Ua rfl (Vx _) by4, Vu _ (Vu _ (Vv _ (Vz (Vx _) (Vz (Vx _) (Vz (Uc (by simp [Cn.cellss]; rfl)) (Vy _)))) (Vt _ (Vt _ (Vt _ (Vt _ (Vu _ (Vr _))))))))⟩)
     | (rw [if_neg g60] at hu; exact ⟨(s, f + 1, cs ++ [Cn.mk ct ac ca], u57, false), ⟨l2, (by show L.length - s.at_ < f + 1; omega), (fun h => by cases h), hu⟩, (by show 2 * (f + 1) + 0 < 2 * (f + 1) + 1; omega), Ua rfl (Vx _) by4, Vu _ (Vu _ (Vv _ (Vz (Vx _) (Vz (Vx _) (Vz (Uc (by simp [Cn.cellss]; rfl)) (Vy _)))) (Vt _ (Vt _ (Vt _ (Vt _ (Vu _ (Vr _))))))))⟩)
   ·refine Zr V (Zt (Zb (Zw ?_)))
    obtain ⟨g, rfl⟩ : ∃ f', g = f' + 1 := ⟨g - 1, by omega⟩
    rw [typesL_go g45] at hv
    have d1 := atype_lt typeP_adv' j1 g45
    have d2 := atype_adv typeP_adv' j1
    have m2 := d2.ok j1
    have HA2 := atype_c b L hL 302 (typeP L) (Type_c b L hL 302) typeP_adv' s j1
    obtain ⟨⟨⟨yk, ys, yn, yl⟩, s2⟩, e2'⟩ : ∃ r, atypeG L (typeP L) s = r := ⟨_, rfl⟩
    rw [e2'] at HA2 hv m2 d1
    simp only [Ty.cells] at HA2
    simp only [] at d1 m2 hv
    have m3 := m2.1
    refine Xu [0, 1, 2, 3, 4, 5, 6, 7] [3, 5, 7] [[], [0], [], [2], [2, 3], [0, 1, 2, 3, 4], [0, 1, 2, 3, 4, 5], [0, 1, 2, 3, 4, 5, 6]] Wk V (Zz 46 (none) (i := 0) V V V V V (Zg V tf_140_1 V ⟨V, V⟩) ?_)
    refine Zz 47 (some 0) (i := 1) V V V V V (Zl (i := 0) V Wr V V V ⟨V, V⟩) ?_
    refine Zz 48 (none) (i := 2) V V V V V (Zd V V ⟨V, V⟩) ?_
    refine Xm 5 (i := 3) V V V V V (Yi (xs := [.tmp 48]) (i := 0) V V V (HA2) by1 ⟨_, V, ?_⟩)
    refine Zz 50 (none) (i := 4) V V V V V (Yb (xs := [.tmp 49]) el_23 V V V V V V (Ud V) ⟨V, V⟩) ?_
    refine Xm 7 (i := 5) V V V V V (Xg (i := 0) el_23 V V V V (.seq _ _) by6 (fun u51 => ⟨_, V, ?_⟩))
    refine Zz 52 (none) (i := 6) V V V V V (Zg V tf_140_1 V ⟨V, V⟩) ?_
    refine Xm 0 (i := 7) V V V V V (Zm (cs' := [_, _, _]) (i := 0) V ts_23 V V V V V (Ud V) V ⟨_, V, ?_⟩)
    show AGo _ _ _ _ _ _ _
    refine Yn (Yv ?_)
    refine ⟨(s2, g, ac ++ [Ty.mk yk ys yn yl], u51), ⟨m2, (by show L.length - s2.at_ < g; omega), (by show (ac ++ [Ty.mk yk ys yn yl]).length ≤ s2.at_; rw [List.length_append]; simp; omega), hv⟩, Nat.lt_succ_self g, by4, (Vv _ (Vz (Vx _) (Vz (Uc (by rw [Ty.cellss_app]; rfl)) (Vy _))) (Vt _ (Vt _ (Vt _ (Vt _ (Vw V))))))⟩
 ·refine Zr V (Zt (Zb (Zw ?_)))
  obtain ⟨f, rfl⟩ : ∃ f', f = f' + 1 := ⟨f - 1, by omega⟩
  have hlt := hkn g18
  rw [hgo f g18, htk g18] at hu
  have HT := take_c b L hL q hq1 1 kE
  rw [htk g18] at HT
  simp only [Tok.av] at HT
  have l1 := (Vf i1 hlt).ok i1
  refine Xu [0, 1, 2, 3, 4, 5, 6, 7, 8] [3, 6, 8] [[], [0], [], [2], [2, 3], [2, 3, 4], [0, 1, 2, 3, 4, 5], [0, 1, 2, 3, 4, 5, 6], [0, 1, 2, 3, 4, 5, 6, 7]] Wk V (Zz 19 (none) (i := 0) V V V V V (Zg V tf_102_1 V ⟨V, V⟩) ?_)
  refine Zz 20 (some 0) (i := 1) V V V V V (Zl (i := 0) V ta_68 V V V ⟨V, V⟩) ?_
  refine Zz 21 (none) (i := 2) V V V V V (Zd V V ⟨V, V⟩) ?_
  refine Xm 3 (i := 3) V V V V V (Yi (xs := [.tmp 21, .const (.int .i64 1), .const (.string ⟨#[]⟩)]) (i := 0) V V V (HT) by1 ⟨_, V, ?_⟩)
  refine Zz 23 (none) (i := 4) V V V V V (Vb (ft := 9) (fo := 1) V (by kernel_rfl) Xd V V ⟨V, V⟩) ?_
  refine Zz 24 (none) (i := 5) V V V V V (Yb (xs := [.tmp 23]) Vo V V V V V V (Ud V) ⟨V, V⟩) ?_
  refine Xm 4 (i := 6) V V V V V (Xg (i := 0) Vo V V V V (.seq _ _) by6 (fun u25 => ⟨_, V, ?_⟩))
  refine Zz 26 (none) (i := 7) V V V V V (Zg V tf_102_1 V ⟨V, V⟩) ?_
  refine Xm 0 (i := 8) V V V V V (Zm (cs' := [_, _, _, _, _]) (i := 0) V ts_68 V V V V V (Ud V) V ⟨_, V, ?_⟩)
  show AGo _ _ _ _ _ _ _
  refine Yn (Yv ?_)
  refine ⟨(stepP q, f, acc ++ [qt], u25), ⟨l1, (by show L.length - (q.at_ + 1) < f; omega), (by show (acc ++ [qt]).length ≤ q.at_ + 1; rw [List.length_append]; simp; omega), hu⟩, Nat.lt_succ_self f, by4, (Vv _ (Vz (Vx _) (Vz (Uc (by rw [strs_app]; rfl)) (Vy _))) (Vt _ (Vt _ (Vw V))))⟩
theorem clsL_err {L : List Tok} {f : Nat} {p : PS} {ms : List Me} {ds : List Bi} (h : p.e ≠ 0) : clsL L f p ms ds = ((ms, ds), p) := by
 cases f with
 | zero => rfl
 | succ f => rw [clsL, if_pos h]
theorem clsL_end {L : List Tok} {f : Nat} {p : PS} {ms : List Me} {ds : List Bi} (h : p.e = 0) (h2 : isP L p kEnd = true) : clsL L (f + 1) p ms ds = ((ms, ds), stepP p) := by rw [clsL, if_neg (by rw [h]; simp), if_pos h2]
theorem Me.cellss_app' (a b : List Me) : Me.cellss (a ++ b) = Me.cellss a ++ Me.cellss b := by simp [Me.cellss]
abbrev zCl : List AV := [.val (.string kE), .val (.string kE), .val (.slice none 0 0), .val (.slice none 0 0), .val (.slice none 0 0), .val (.int .i64 0)]
theorem class_b (b : Nat) (L : List Tok) (hL : L.length ≤ 100000) (p : PS) (k : POk L 302 p) (c17 : Bool) (h3 : isP L (takeP L (takeP L p 2 kE).2 1 kE).2 kFrom = c17) : MCall Tryz.prog 53 [.ptr b 0] (.loc b (psC L p)) (.agg (classP L p).1.cells) (.loc b (psC L (classP L p).2)) := by
 have H1 := take_c b L hL p k.1 2 kE
 have k1 := (Yo (kind := 2) (s := kE) (by decide) k).ok k
 obtain ⟨r, hr⟩ : ∃ r, classP L p = r := ⟨_, rfl⟩
 rw [hr]
 unfold classP at hr
 simp only [] at hr
 obtain ⟨⟨⟨tk, tt, tn, ta⟩, p1⟩, e1⟩ : ∃ r, takeP L p 2 kE = r := ⟨_, rfl⟩
 rw [e1] at H1 k1 hr h3
 simp only [Tok.av] at H1 k1 hr h3
 have H2 := take_c b L hL p1 k1.1 1 kE
 have k2 := (Yo (kind := 1) (s := kE) (by decide) k1).ok k1
 obtain ⟨⟨⟨vk, vt, vn, va⟩, p2⟩, e2⟩ : ∃ r, takeP L p1 1 kE = r := ⟨_, rfl⟩
 rw [e2] at H2 k2 hr h3
 simp only [Tok.av] at H2 k2 hr h3
 have HM := may_eq (b := b) hL h3
 have k3 := (supers_adv k2).ok k2
 obtain ⟨⟨sl, p3⟩, e3⟩ : ∃ r, supersP L p2 = r := ⟨_, rfl⟩
 rw [e3] at k3 hr
 simp only [] at k3 hr
 have e3 : (if c17 = true then uppersP L (stepP p2) else ([], p2)) = (sl, p3) := by rw [← e3, supersP, h3]
 have H4 := take_c b L hL p3 k3.1 6 kWhere
 have k4 := (Yo (kind := 6) (s := kWhere) (by decide) k3).ok k3
 obtain ⟨⟨u4, p4⟩, e4⟩ : ∃ r, takeP L p3 6 kWhere = r := ⟨_, rfl⟩
 rw [e4] at H4 k4 hr
 simp only [] at H4 k4 hr
 obtain ⟨⟨⟨ml, dl⟩, p5⟩, e5⟩ : ∃ r, clsL L (L.length + 1) p4 [] [] = r := ⟨_, rfl⟩
 rw [e5] at hr
 simp only [] at hr
 refine Zu Tryz.func53 V (by kernel_rfl) V (Ud V) ?_
 refine Yf (Zf (Zc (Za 2 V V V (Zy (cs' := [_, _, _, _, _, _]) V tz_77 V V ?_)))); intro b2
 refine Vq (Zb (Zf (Zc (Za 6 V V V (Zd V V (Za 7 V V V (Yi (xs := [.tmp 6, .const (.int .i64 2), .const (.string ⟨#[]⟩)]) (i := 1) V V V (H1) by1 ?_)))))))
 refine Za 3 V V V (Zy (cs' := [_, _, _, _]) V Wj V V ?_); intro b3
 refine Zq V V (Zm (cs' := [_, _, _, _]) (i := 0) V Xk V V V V V (Ud V) V (Vq (Zb (Zf (c_drawnEF [0, 1, 2, 5, 6, 3, 4, 7, 8, 9] [3, 8, 9] [[], [0], [], [2], [2, 3], [], [5], [0, 1, 2, 3, 4, 5, 6], [], [0, 1, 2, 3, 4, 5, 6, 7, 8]] 8 (cs0 := [_, _, _, _, _, _]) Wk V V V V tz_77 V V (EOpsF.d 8 (none) (i := 0) V V V V V V (Zg V Xi V ⟨V, V⟩) ?_))))))
 refine EOpsF.d 9 (some 0) (i := 1) V V V V V V (Zl (i := 0) V Xd V V V ⟨V, V⟩) ?_
 refine EOpsF.d 10 (none) (i := 2) V V V V V V (Zd V V ⟨V, V⟩) ?_
 refine EOpsF.d 13 (none) (i := 5) V V V V V V (Zg V Ww V ⟨V, V⟩) ?_
 refine EOpsF.d 14 (some 0) (i := 6) V V V V V V (Zl (i := 0) V Xf V V V ⟨V, V⟩) ?_
 refine EOpsF.w 2 (i := 3) V V V V V V (Yi (xs := [.tmp 10, .const (.int .i64 1), .const (.string ⟨#[]⟩)]) (i := 0) V V V (H2) by1 ⟨_, V, ?_⟩)
 refine EOpsF.d 12 (none) (i := 4) V V V V V V (Vb (ft := 9) (fo := 1) V (by kernel_rfl) Xd V V ⟨V, V⟩) ?_
 refine EOpsF.d 15 (none) (i := 7) V V V V V V (Yj (ns := [0, 1, 5]) (xs := [.tmp 9, .tmp 12, .tmp 14]) V tz_77 V tfl_77 V V V V ⟨V, V⟩) ?_
 refine EOpsF.free (i := 8) V V V ?_; intro b4
 refine EOpsF.w 3 (i := 9) V V V V V V (Zm (cs' := [_, _, _, _, _, _]) (i := 0) V ts_77 V V V V V (Ud V) V ⟨_, V, ?_⟩)
 show AGo _ _ _ _ _ _ _
 refine Zb (Zf (Zf (Zc (Za 16 V V V (Zd V V (Za 17 V V V (Yi (xs := [.tmp 16, .const (.string ⟨#[102, 114, 111, 109]⟩)]) (i := 2) V V V (HM) by1 ?_)))))))
 refine Vq (Zb ?_)
 apply c_joink [1, 3, 6, 7, 8, 9, 10, 11, 12, 13, 14, 15, 16, 17, 18, 19, 20, 22, 45, 59] (σ := Unit) (fun zz => match zz with | z => []) (fun zz => match zz with | z => [.loc b3 (Tok.mk tk tt tn ta).av, .loc b2 zCl, .loc b (psC L p3), .loc b4 [.val (.string tt), .val (.string vt), .seq 1 (strs sl), .val (.slice none 0 0), .val (.slice none 0 0), .val (.int .i64 ta)]]) (fun zz => match zz with | z => True)
 ·repeat' (first | exact Ug | apply Ue rfl | apply Uf rfl)
 ·skip
  rcases c17 with _ | _
  ·refine Zn V (Zt (Yv ?_))
   first
   | exact ⟨(), trivial, by4, Vw rfl⟩
   | (rw [if_neg (by decide)] at e3; cases e3; exact ⟨(), trivial, by4, (Vt _ (Vt _ (Vt _ (Vv _ by0 (MLe.nil)))))⟩)
  ·refine Zr V ?_
   rw [if_pos rfl] at e3
   have kA := (Xo k2 h3).ok k2
   have HU := uppers_c b L hL 302 (stepP p2) kA
   rw [e3] at HU
   refine Zc (Za 18 V V V (Zd V V (Za 19 V V V (Yi (xs := [.tmp 18]) (i := 2) V V V (HU) by1 ?_))))
   refine Za 20 V V V (Zg V tf_77_2 V (Zq V V (Zm (cs' := [_, _, _, _, _, _]) (i := 3) V ts_68 V V V V V (Ud V) V (Vq (Yv ?_)))))
   first
   | exact ⟨(), trivial, by4, Vw rfl⟩
   | (rw [if_neg (by decide)] at e3; cases e3; exact ⟨(), trivial, by4, (Vt _ (Vt _ (Vt _ (Vv _ by0 (MLe.nil)))))⟩)
 rintro z hI
 try dsimp only [List.cons_append, List.nil_append] at hI ⊢
 refine Zb (Zf (Zc (Za 21 V V V (Zd V V (Za 22 V V V (Yi (xs := [.tmp 21, .const (.int .i64 6), .const (.string ⟨#[119, 104, 101, 114, 101]⟩)]) (i := 2) V V V (H4) by1 ?_))))))
 refine Vq (Zb (Zf (Zw (Xx 145 6 (Xx 112 13 ?_)))))
 apply Xp [1, 3, 5, 6, 7, 8, 9, 10, 11, 12, 13, 14, 15, 16, 17, 18, 19, 20, 21, 22, 23, 24, 25, 26, 27, 28, 29, 30, 31, 32, 33, 34, 35, 36, 37, 38, 39, 40, 41, 42, 43, 44, 45, 46, 47, 48, 49, 50, 51, 52, 53, 54, 55, 56, 57, 58, 59] (σ := PS × Nat × List Me × List Bi × Value × Value) (fun zz => match zz with | (q, f, ms, ds, u, v) => []) (fun zz => match zz with | (q, f, ms, ds, u, v) => [.loc b3 (Tok.mk tk tt tn ta).av, .loc b2 zCl, .loc b (psC L q), .loc b4 [.val (.string tt), .val (.string vt), .seq 1 (strs sl), .own u 6 (Me.cellss ms), .own v 13 (Bi.cellss ds), .val (.int .i64 ta)], .own 145 6 u, .own 112 13 v]) (fun zz => match zz with | (q, f, ms, ds, u, v) => POk L 302 q ∧ (q.e = 0 → L.length - q.at_ < f ∧ ms.length + ds.length ≤ q.at_) ∧ clsL L f q ms ds = ((ml, dl), p5)) (fun zz => match zz with | (q, f, ms, ds, u, v) => f) ((p4, L.length + 1, [], [], .slice none 0 0, .slice none 0 0))
 ·repeat' (first | exact Ug | apply Ue rfl | apply Uf rfl)
 ·exact ⟨k4, fun _ => ⟨by omega, Nat.zero_le _⟩, e5⟩
 ·exact by4
 ·exact (Vt _ (Vt _ (Vt _ (Vv _ (Vz (Vx _) (Vz (Vx _) (Vz (Vx _) (Vz (Le.nilOwn 6) (Vz (Le.nilOwn 13) (Vy _)))))) (Vr _)))))
 rintro ⟨q, f, ms, ds, u, v⟩ hI
 try dsimp only [List.cons_append, List.nil_append] at hI ⊢
 obtain ⟨i1, i2, hu⟩ := hI
 have hq1 := i1.1
 refine Zf (Zf (Zc (Za 23 V V V (Zd V V (Za 24 V V V (Yl V V (Za 25 V V V (Zg V Vn V (Za 26 V V V (Zl (i := 2) V Xf V V V (Za 27 V V V (Yw V V V ?_)))))))))))); intro c27 h27
 refine Za 28 V V V (Zd V V ?_)
 rcases Zh h27 with ⟨rfl, g27⟩ | ⟨rfl, g27⟩
 ·skip
  refine Zi 29 V V V V V (Zi 30 V V V V V (Zi 31 V V V V V (Za 32 V V V (Zo V V V (Vq (Zb (Zn V (Yy (Xa (Xs (Yz (Zb (Zf (Zc (Za 60 V V V (Zx (cs' := [_, _, _, _, _, _]) (i := 3) V ta_77 V V V V (Zq V V (Zm (cs' := [_, _, _, _, _, _]) (i := 1) V ts_77 V V V V V (Ud V) V (Vq (Zb (Ya ?_)))))))))))))))))))))
  first
  | (rw [clsL_err g27] at hu; cases hu; subst hr; exact Ym (i := 1) rfl rfl rfl ta_77 rfl by0 (Vu _ (Vu _ (Vt _ (Vs _)))) ⟨rfl, rfl⟩)
  | (obtain ⟨f, rfl⟩ : ∃ f', f = f' + 1 := ⟨f - 1, by have := (i2 g27).1; omega⟩; rw [clsL_end g27 g30] at hu; cases hu; subst hr; exact Ym (i := 1) rfl rfl rfl ta_77 rfl by0 (Vu _ (Vu _ (Vt _ (Vs _)))) ⟨rfl, rfl⟩)
 ·skip
  refine Zk 29 V V V V V (Zd V V (Zk 30 V V V V V (op_mayc (xs := [.tmp 29, .const (.string ⟨#[101, 110, 100]⟩)]) (i := 2) V V V (may_c b L hL q kEnd) by1 ?_ ?_)))
  ·intro g30
   refine Zk 31 V V V V V (We V V ?_); intro c31 h31
   try replace h31 := nott h31 h30
   obtain rfl : c31 = false := by
    cases c31 with
    | false => rfl
    | true => exact absurd (h31.1 rfl) (by decide)
   refine Za 32 V V V (Zo V V V (Vq (Zb (Zn V (Yy (Xa (Xs (Yz (Zb (Zf (Zc (Za 60 V V V (Zx (cs' := [_, _, _, _, _, _]) (i := 3) V ta_77 V V V V (Zq V V (Zm (cs' := [_, _, _, _, _, _]) (i := 1) V ts_77 V V V V V (Ud V) V (Vq (Zb (Ya ?_))))))))))))))))))
   first
   | (rw [clsL_err g27] at hu; cases hu; subst hr; exact Ym (i := 1) rfl rfl rfl ta_77 rfl by0 (Vu _ (Vu _ (Vt _ (Vs _)))) ⟨rfl, rfl⟩)
   | (obtain ⟨f, rfl⟩ : ∃ f', f = f' + 1 := ⟨f - 1, by have := (i2 g27).1; omega⟩; rw [clsL_end g27 g30] at hu; cases hu; subst hr; exact Ym (i := 1) rfl rfl rfl ta_77 rfl by0 (Vu _ (Vu _ (Vt _ (Vs _)))) ⟨rfl, rfl⟩)
  ·intro g30
   refine Zk 31 V V V V V (We V V ?_); intro c31 h31
   try replace h31 := nott h31 h30
   obtain rfl : c31 = true := h31.2 rfl
   refine Za 32 V V V (Zo V V V (Vq (Zb (Zr V (Zt (Zb (Zw (Zf (Zf ?_)))))))))
   obtain ⟨i3, i4⟩ := i2 g27
   have hl1 : (Me.cellss ms).length ≤ 200000 := by rw [Me.cellss_len]; omega
   have hl2 : (Bi.cellss ds).length ≤ 200000 := by rw [Bi.cellss_len]; omega
   obtain ⟨f, rfl⟩ : ∃ f', f = f' + 1 := ⟨f - 1, by omega⟩
   rw [clsL, if_neg (by rw [g27]; simp), if_neg g30] at hu
   refine Zc (Za 33 V V V (Zd V V (Za 34 V V V (op_mayc (xs := [.tmp 33, .const (.string ⟨#[100, 101, 102]⟩)]) (i := 2) V V V (may_c b L hL q kDef) by1 ?_ ?_))))
   ·intro g34
    refine Vq (Zb (Zr V ?_))
    rw [if_pos g34] at hu
    have l1 := (Xo i1 g34).ok i1
    have l2 := (bindP_adv l1).ok l1
    have b1 : (stepP q).at_ ≤ _ := (bindP_adv l1).1
    have b1' : (stepP q).at_ = q.at_ + 1 := rfl
    have HB := bindP_c b L hL (stepP q) l1
    obtain ⟨⟨⟨bn, ⟨xk, xs, xn, ⟨xtk, xts, xtn, xtl⟩, xks, xal, xbs, xp⟩, bp⟩, q2⟩, f2⟩ : ∃ r, bindP L (stepP q) = r := ⟨_, rfl⟩
    rw [f2] at HB l2 b1 hu
    simp only [Bi.cells, Ex.cells, Ty.cells, List.cons_append, List.nil_append] at HB l2 b1 hu
    have b2' : q.at_ ≤ q2.at_ := by omega
    have HS := take_c b L hL q2 l2.1 7 kSemi
    have hpr := take_prog (L := L) (p := q2) (kind := 7) (s := kSemi) (by decide)
    have l5 := (Yo (kind := 7) (s := kSemi) (by decide) l2).ok l2
    obtain ⟨⟨u6, q5⟩, f5⟩ : ∃ r, takeP L q2 7 kSemi = r := ⟨_, rfl⟩
    rw [f5] at HS hpr l5 hu
    simp only [Prod.mk.injEq] at HS hpr l5 hu
    refine Xu [0, 1, 2, 3, 4, 5, 6, 7] [3, 5, 7] [[], [0], [], [2], [2, 3], [0, 1, 2, 3, 4], [0, 1, 2, 3, 4, 5], [0, 1, 2, 3, 4, 5, 6]] Wk V (Zz 35 (none) (i := 0) V V V V V (Zg V tf_77_4 V ⟨V, V⟩) ?_)
    refine Zz 36 (some 3) (i := 1) V V V V V (Zl (i := 0) V ta_53 V V V ⟨V, V⟩) ?_
    refine Zz 37 (none) (i := 2) V V V V V (Zd V V ⟨V, V⟩) ?_
    refine Xm 2 (i := 3) V V V V V (Yi (xs := [.tmp 37]) (i := 0) V V V (HB) by1 ⟨_, V, ?_⟩)
    refine Zz 39 (none) (i := 4) V V V V V (Yb (xs := [.tmp 38]) el_53 V V V V V V (Ud V) ⟨V, V⟩) ?_
    refine Xm 5 (i := 5) V V V V V (Xg (i := 0) el_53 V V V V (.seq _ _) by6 (fun u40 => ⟨_, V, ?_⟩))
    refine Zz 41 (none) (i := 6) V V V V V (Zg V tf_77_4 V ⟨V, V⟩) ?_
    refine Xm 3 (i := 7) V V V V V (Zm (cs' := [_, _, _, _, _, _]) (i := 0) V ts_53 V V V V V (Ud V) V ⟨_, V, ?_⟩)
    show AGo _ _ _ _ _ _ _
    refine Zb ?_
    first | (have := HN; refine c_le (SLe.refl _) (Vu _ (Vr _)) ?_) | skip
    refine Zc (Za 58 V V V (Zd V V (Za 59 V V V (Yi (xs := [.tmp 58, .const (.int .i64 7), .const (.string ⟨#[59]⟩)]) (i := 2) V V V (HS) by1 ?_))))
    refine Vq (Yn (Yv ?_))
    first
    | exact ⟨(q5, f, ms, ds ++ [Bi.mk bn (Ex.mk xk xs xn (Ty.mk xtk xts xtn xtl) xks xal xbs xp) bp], u, u40), ⟨l5, (fun e => by obtain ⟨⟨_, h5⟩, _, h6⟩ := hpr e; rw [h5]; refine ⟨?_, ?_⟩; (show L.length - (q2.at_ + 1) < f; omega); (show ms.length + (ds ++ _).length ≤ q2.at_ + 1; rw [List.length_append]; simp; omega)), hu⟩, Nat.lt_succ_self f, by4, (Vt _ (Vt _ (Vt _ (Vv _ (Vz (Vx _) (Vz (Vx _) (Vz (Vx _) (Vz (Vx _) (Vz (Uc by10) (Vy _)))))) (Vw rfl)))))⟩
    | exact ⟨(q5, f, ms ++ [Me.mk nt (Ty.mk yk ys yn yl) na], ds, u56, v), ⟨l5, (fun e => by obtain ⟨⟨_, h5⟩, _, h6⟩ := hpr e; rw [h5]; refine ⟨?_, ?_⟩; (show L.length - (q2.at_ + 1) < f; omega); (show (ms ++ _).length + ds.length ≤ q2.at_ + 1; rw [List.length_append]; simp; omega)), hu⟩, Nat.lt_succ_self f, by4, (Vt _ (Vt _ (Vt _ (Vv _ (Vz (Vx _) (Vz (Vx _) (Vz (Vx _) (Vz (Uc (by rw [Me.cellss_app']; rfl)) (Vz (Vx _) (Vy _)))))) (Vw rfl)))))⟩
   ·intro g34
    refine Vq (Zb (Zn V (Zf ?_)))
    rw [if_neg g34] at hu
    have HN := pName_c b L hL 302 q i1
    have l1 := (name_adv i1).ok i1
    have b1 := (name_adv i1).1
    obtain ⟨⟨⟨nk, nt, nn, na⟩, q1⟩, f1⟩ : ∃ r, nameP L q = r := ⟨_, rfl⟩
    rw [f1] at HN l1 b1 hu
    simp only [Tok.av] at HN l1 b1 hu
    have HC := take_c b L hL q1 l1.1 7 kColon
    have l2' := (Yo (kind := 7) (s := kColon) (by decide) l1).ok l1
    have b2'' := (Yo (L := L) (kind := 7) (s := kColon) (by decide) l1).1
    obtain ⟨⟨u7, q3⟩, f3⟩ : ∃ r, takeP L q1 7 kColon = r := ⟨_, rfl⟩
    rw [f3] at HC l2' b2'' hu
    simp only [] at HC l2' b2'' hu
    have HT := typeP_c b L hL 302 q3 l2'
    have l2 := (typeP_adv l2').ok l2'
    have b3' := (typeP_adv l2').1
    obtain ⟨⟨⟨yk, ys, yn, yl⟩, q2⟩, f2⟩ : ∃ r, typeP L q3 = r := ⟨_, rfl⟩
    rw [f2] at HT l2 b3' hu
    simp only [Ty.cells] at HT l2 b3' hu
    have b2' : q.at_ ≤ q2.at_ := by omega
    have HS := take_c b L hL q2 l2.1 7 kSemi
    have hpr := take_prog (L := L) (p := q2) (kind := 7) (s := kSemi) (by decide)
    have l5 := (Yo (kind := 7) (s := kSemi) (by decide) l2).ok l2
    obtain ⟨⟨u6, q5⟩, f5⟩ : ∃ r, takeP L q2 7 kSemi = r := ⟨_, rfl⟩
    rw [f5] at HS hpr l5 hu
    simp only [Prod.mk.injEq] at HS hpr l5 hu
    refine Zc (Za 42 V V V (Zd V V (Za 43 V V V (Yi (xs := [.tmp 42]) (i := 2) V V V (HN) by1 ?_))))
    refine Za 5 V V V (Zy (cs' := [_, _, _, _]) V Wj V V ?_); intro b5
    refine Zq V V (Zm (cs' := [_, _, _, _]) (i := 0) V Xk V V V V V (Ud V) V (Vq (Zb (Zf (Zc (Za 44 V V V (Zd V V (Za 45 V V V (Yi (xs := [.tmp 44, .const (.int .i64 7), .const (.string ⟨#[58]⟩)]) (i := 3) V V V (HC) by1 ?_)))))))))
    refine Vq (Zb (Xu [0, 1, 2, 3, 4, 6, 7, 5, 8, 9, 10, 11, 12] [5, 10, 12] [[], [0], [], [2], [], [4], [], [6], [2, 3, 4, 5, 6, 7], [2, 3, 4, 5, 6, 7, 8], [0, 1, 2, 3, 4, 5, 6, 7, 8, 9], [0, 1, 2, 3, 4, 5, 6, 7, 8, 9, 10], [0, 1, 2, 3, 4, 5, 6, 7, 8, 9, 10, 11]] Wk V (Zz 46 (none) (i := 0) V V V V V (Zg V tf_77_3 V ⟨V, V⟩) ?_)))
    refine Zz 47 (some 4) (i := 1) V V V V V (Zl (i := 0) V ta_75 V V V ⟨V, V⟩) ?_
    refine Zz 48 (none) (i := 2) V V V V V (Zg V Xi V ⟨V, V⟩) ?_
    refine Zz 49 (some 0) (i := 3) V V V V V (Zl (i := 0) V Xd V V V ⟨V, V⟩) ?_
    refine Zz 50 (none) (i := 4) V V V V V (Zd V V ⟨V, V⟩) ?_
    refine Zz 52 (none) (i := 6) V V V V V (Zg V Ww V ⟨V, V⟩) ?_
    refine Zz 53 (some 0) (i := 7) V V V V V (Zl (i := 0) V Xf V V V ⟨V, V⟩) ?_
    refine Xm 3 (i := 5) V V V V V (Yi (xs := [.tmp 50]) (i := 0) V V V (HT) by1 ⟨_, V, ?_⟩)
    refine Zz 54 (none) (i := 8) V V V V V (Yj (ns := [0, 1, 2]) (xs := [.tmp 49, .tmp 51, .tmp 53]) V tz_145 V tfl_145 V V V V ⟨V, V⟩) ?_
    refine Zz 55 (none) (i := 9) V V V V V (Yb (xs := [.tmp 54]) el_75 V V V V V V (Ud V) ⟨V, V⟩) ?_
    refine Xm 5 (i := 10) V V V V V (Xg (i := 0) el_75 V V V V (.seq _ _) by6 (fun u56 => ⟨_, V, ?_⟩))
    refine Zz 57 (none) (i := 11) V V V V V (Zg V tf_77_3 V ⟨V, V⟩) ?_
    refine Xm 4 (i := 12) V V V V V (Zm (cs' := [_, _, _, _, _, _]) (i := 0) V ts_75 V V V V V (Ud V) V ⟨_, V, ?_⟩)
    show AGo _ _ _ _ _ _ _
    refine Zb ?_
    first | (have := HN; refine c_le (SLe.refl _) (Vu _ (Vr _)) ?_) | skip
    refine Zc (Za 58 V V V (Zd V V (Za 59 V V V (Yi (xs := [.tmp 58, .const (.int .i64 7), .const (.string ⟨#[59]⟩)]) (i := 2) V V V (HS) by1 ?_))))
    refine Vq (Yn (Yv ?_))
    first
    | exact ⟨(q5, f, ms, ds ++ [Bi.mk bn (Ex.mk xk xs xn (Ty.mk xtk xts xtn xtl) xks xal xbs xp) bp], u, u40), ⟨l5, (fun e => by obtain ⟨⟨_, h5⟩, _, h6⟩ := hpr e; rw [h5]; refine ⟨?_, ?_⟩; (show L.length - (q2.at_ + 1) < f; omega); (show ms.length + (ds ++ _).length ≤ q2.at_ + 1; rw [List.length_append]; simp; omega)), hu⟩, Nat.lt_succ_self f, by4, (Vt _ (Vt _ (Vt _ (Vv _ (Vz (Vx _) (Vz (Vx _) (Vz (Vx _) (Vz (Vx _) (Vz (Uc by10) (Vy _)))))) (Vw rfl)))))⟩
    | exact ⟨(q5, f, ms ++ [Me.mk nt (Ty.mk yk ys yn yl) na], ds, u56, v), ⟨l5, (fun e => by obtain ⟨⟨_, h5⟩, _, h6⟩ := hpr e; rw [h5]; refine ⟨?_, ?_⟩; (show L.length - (q2.at_ + 1) < f; omega); (show (ms ++ _).length + ds.length ≤ q2.at_ + 1; rw [List.length_append]; simp; omega)), hu⟩, Nat.lt_succ_self f, by4, (Vt _ (Vt _ (Vt _ (Vv _ (Vz (Vx _) (Vz (Vx _) (Vz (Vx _) (Vz (Uc (by rw [Me.cellss_app']; rfl)) (Vz (Vx _) (Vy _)))))) (Vw rfl)))))⟩
theorem class_c (b : Nat) (L : List Tok) (hL : L.length ≤ 100000) (p : PS) (k : POk L 302 p) : MCall Tryz.prog 53 [.ptr b 0] (.loc b (psC L p)) (.agg (classP L p).1.cells) (.loc b (psC L (classP L p).2)) := class_b b L hL p k _ rfl
theorem Le.own_less {u : Value} {m : Nat} {es es' : List (List AV)} (h : Less es es') : Le (.own u m es) (.own u m es') := fun F x k => by
 cases k with | own _ k => exact .own _ (Le.seq h _ _ k)
theorem Less.snoc {a b : List AV} (h : Les a b) (hl : a.length = b.length) : ∀ es : List (List AV), Less (es ++ [a]) (es ++ [b])
 | [] => .cons h hl .nil
 | _ :: es => .cons (Vy _) rfl (Less.snoc h hl es)
theorem preds_snoc {u : Value} (acc : List Pr) (ct vt : ByteArray) : Le (.own u 5 (Pr.cellss acc ++ [[.val (.string ct), .val (.int .i64 1), .val (.string vt), .val (.int .i64 0), .val (.slice none 0 0)]])) (.own u 5 (Pr.cellss (acc ++ [Pr.mk ct (Ty.mk 1 vt 0 [])]))) := by
 rw [show Pr.cellss (acc ++ [Pr.mk ct (Ty.mk 1 vt 0 [])]) = Pr.cellss acc ++ [[.val (.string ct), .val (.int .i64 1), .val (.string vt), .val (.int .i64 0), .seq 4 []]] by simp [Pr.cellss, Pr.cells, Ty.cells, Ty.cellss]]
 exact Le.own_less (Less.snoc (Vz (Vx _) (Vz (Vx _) (Vz (Vx _) (Vz (Vx _) (Vz (Le.nil _) (Vy _)))))) V _)
theorem ctxL_err {L : List Tok} {f : Nat} {p : PS} {acc : List Pr} (h : p.e ≠ 0) : ctxL L f p acc = (acc, p) := by
 cases f with
 | zero => rfl
 | succ f => rw [ctxL, if_pos h]
theorem insL_err {L : List Tok} {f : Nat} {p : PS} {bs : List Bi} (h : p.e ≠ 0) : insL L f p bs = (bs, p) := by
 cases f with
 | zero => rfl
 | succ f => rw [insL, if_pos h]
theorem insL_end {L : List Tok} {f : Nat} {p : PS} {bs : List Bi} (h : p.e = 0) (h2 : isP L p kEnd = true) : insL L (f + 1) p bs = (bs, stepP p) := by rw [insL, if_neg (by rw [h]; simp), if_pos h2]
abbrev zIn : List AV := [.val (.string kE), .val (.int .i64 0), .val (.string kE), .val (.int .i64 0), .val (.slice none 0 0), .val (.slice none 0 0), .val (.slice none 0 0), .val (.int .i64 0)]
theorem inst_b (b : Nat) (L : List Tok) (hL : L.length ≤ 100000) (p : PS) (k : POk L 302 p) (c18 : Bool) (h3 : isP L (atypeG L (typeP L) (takeP L p 2 kE).2).2 kFrom = c18) : MCall Tryz.prog 54 [.ptr b 0] (.loc b (psC L p)) (.agg (instP L p).1.cells) (.loc b (psC L (instP L p).2)) := by
 have H1 := take_c b L hL p k.1 2 kE
 have k1 := (Yo (kind := 2) (s := kE) (by decide) k).ok k
 obtain ⟨r, hr⟩ : ∃ r, instP L p = r := ⟨_, rfl⟩
 rw [hr]
 unfold instP at hr
 simp only [] at hr
 obtain ⟨⟨⟨tk, tt, tn, ta⟩, p1⟩, e1⟩ : ∃ r, takeP L p 2 kE = r := ⟨_, rfl⟩
 rw [e1] at H1 k1 hr h3
 simp only [Tok.av] at H1 k1 hr h3
 have H2 := atype_c b L hL 302 (typeP L) (Type_c b L hL 302) typeP_adv' p1 k1
 have k2 := (atype_adv typeP_adv' k1).ok k1
 obtain ⟨⟨⟨hk, hs, hn, hl⟩, p2⟩, e2⟩ : ∃ r, atypeG L (typeP L) p1 = r := ⟨_, rfl⟩
 rw [e2] at H2 k2 hr h3
 simp only [Ty.cells] at H2 k2 hr h3
 have HM := may_eq (b := b) hL h3
 have k3 := (ctx_adv k2).ok k2
 obtain ⟨⟨cxs, p3⟩, e3⟩ : ∃ r, ctxP L p2 = r := ⟨_, rfl⟩
 rw [e3] at k3 hr
 simp only [] at k3 hr
 have e3 : (if c18 = true then ctxL L (L.length + 1) (stepP p2) [] else ([], p2)) = (cxs, p3) := by rw [← e3, ctxP, h3]
 have H4 := take_c b L hL p3 k3.1 6 kWhere
 have k4 := (Yo (kind := 6) (s := kWhere) (by decide) k3).ok k3
 obtain ⟨⟨u4, p4⟩, e4⟩ : ∃ r, takeP L p3 6 kWhere = r := ⟨_, rfl⟩
 rw [e4] at H4 k4 hr
 simp only [] at H4 k4 hr
 obtain ⟨⟨bl, p5⟩, e5⟩ : ∃ r, insL L (L.length + 1) p4 [] = r := ⟨_, rfl⟩
 rw [e5] at hr
 simp only [] at hr
 refine Zu Tryz.func54 V (by kernel_rfl) V (Ud V) ?_
 refine Yf (Zf (Zc (Za 2 V V V (Zy (cs' := [_, _, _, _, _, _, _, _]) V tz_73 V V ?_)))); intro b2
 refine Vq (Zb (Zf (Zc (Za 8 V V V (Zd V V (Za 9 V V V (Yi (xs := [.tmp 8, .const (.int .i64 2), .const (.string ⟨#[]⟩)]) (i := 1) V V V (H1) by1 ?_)))))))
 refine Za 3 V V V (Zy (cs' := [_, _, _, _]) V Wj V V ?_); intro b3
 refine Zq V V (Zm (cs' := [_, _, _, _]) (i := 0) V Xk V V V V V (Ud V) V (Vq (Zb (Zf (c_drawnEF [0, 1, 2, 4, 5, 3, 6, 7, 8] [3, 7, 8] [[], [0], [], [2], [], [4], [0, 1, 2, 3, 4, 5], [], [0, 1, 2, 3, 4, 5, 6, 7]] 7 (cs0 := [_, _, _, _, _, _, _, _]) Wk V V V V tz_73 V V (EOpsF.d 10 (none) (i := 0) V V V V V V (Zg V Xi V ⟨V, V⟩) ?_))))))
 refine EOpsF.d 11 (some 0) (i := 1) V V V V V V (Zl (i := 0) V Xd V V V ⟨V, V⟩) ?_
 refine EOpsF.d 12 (none) (i := 2) V V V V V V (Zd V V ⟨V, V⟩) ?_
 refine EOpsF.d 14 (none) (i := 4) V V V V V V (Zg V Ww V ⟨V, V⟩) ?_
 refine EOpsF.d 15 (some 0) (i := 5) V V V V V V (Zl (i := 0) V Xf V V V ⟨V, V⟩) ?_
 refine EOpsF.w 2 (i := 3) V V V V V V (Yi (xs := [.tmp 12]) (i := 0) V V V (H2) by1 ⟨_, V, ?_⟩)
 refine EOpsF.d 16 (none) (i := 6) V V V V V V (Yj (ns := [0, 1, 4]) (xs := [.tmp 11, .tmp 13, .tmp 15]) V tz_73 V tfl_73 V V V V ⟨V, V⟩) ?_
 refine EOpsF.free (i := 7) V V V ?_; intro b4
 refine EOpsF.w 3 (i := 8) V V V V V V (Zm (cs' := [_, _, _, _, _, _, _, _]) (i := 0) V ts_73 V V V V V (Ud V) V ⟨_, V, ?_⟩)
 show AGo _ _ _ _ _ _ _
 refine Zb (Zf (Zf (Zc (Za 17 V V V (Zd V V (Za 18 V V V (Yi (xs := [.tmp 17, .const (.string ⟨#[102, 114, 111, 109]⟩)]) (i := 2) V V V (HM) by1 ?_)))))))
 refine Vq (Zb ?_)
 apply c_joink [1, 3, 5, 6, 7, 8, 9, 10, 11, 12, 13, 14, 15, 16, 17, 18, 19, 20, 21, 22, 23, 24, 25, 26, 27, 28, 29, 30, 31, 32, 33, 34, 35, 36, 37, 38, 39, 40, 41, 42, 43, 45, 57, 66] (σ := Unit) (fun zz => match zz with | z => []) (fun zz => match zz with | z => [.loc b3 (Tok.mk tk tt tn ta).av, .loc b2 zIn, .loc b (psC L p3), .loc b4 [.val (.string tt), .val (.int .i64 hk), .val (.string hs), .val (.int .i64 hn), .seq 4 (Ty.cellss hl), .seq 5 (Pr.cellss cxs), .val (.slice none 0 0), .val (.int .i64 ta)]]) (fun zz => match zz with | z => True)
 ·repeat' (first | exact Ug | apply Ue rfl | apply Uf rfl)
 ·skip
  rcases c18 with _ | _
  ·refine Zn V (Zt (Yv ?_))
   first
   | (rw [if_neg (by decide)] at e3; cases e3; exact ⟨(), trivial, by4, (Vt _ (Vt _ (Vt _ (Vv _ by0 (MLe.nil)))))⟩)
   | (have hu2 : (acc, q) = (cxs, p3) := by
       cases mo with
       | false => exact hu
       | true => rw [if_pos rfl, ctxL_err (fun e => g26 ⟨rfl, e⟩)] at hu; exact hu
      simp only [Prod.mk.injEq] at hu2
      obtain ⟨rfl, rfl⟩ := hu2
      exact ⟨(), trivial, by4, (Vt _ (Vt _ (Vt _ (Vv _ by0 (Vu _ (MLe.nil))))))⟩)
  ·refine Zr V (Zf ?_)
   rw [if_pos rfl] at e3
   have kA := (Xo k2 h3).ok k2
   refine Zc (Za 5 V V V (Ze V V (Vq (Zb (Zw (Xx 27 5 ?_))))))
   apply Xp [1, 3, 5, 6, 7, 8, 9, 10, 11, 12, 13, 14, 15, 16, 17, 18, 19, 20, 21, 22, 23, 24, 25, 26, 27, 28, 29, 30, 31, 32, 33, 34, 35, 36, 37, 38, 39, 40, 41, 42, 43, 45, 57, 66] (σ := PS × Nat × List Pr × Value × Bool) (fun zz => match zz with | (q, f, acc, u, mo) => [(5, .val (.bool mo))]) (fun zz => match zz with | (q, f, acc, u, mo) => [.loc b3 (Tok.mk tk tt tn ta).av, .loc b2 zIn, .loc b (psC L q), .loc b4 [.val (.string tt), .val (.int .i64 hk), .val (.string hs), .val (.int .i64 hn), .seq 4 (Ty.cellss hl), .own u 5 (Pr.cellss acc), .val (.slice none 0 0), .val (.int .i64 ta)], .own 27 5 u]) (fun zz => match zz with | (q, f, acc, u, mo) => POk L 302 q ∧ L.length - q.at_ < f ∧ (mo = true → acc.length ≤ q.at_) ∧ (if mo = true then ctxL L f q acc else (acc, q)) = (cxs, p3)) (fun zz => match zz with | (q, f, acc, u, mo) => 2 * f + (if mo = true then 1 else 0)) ((stepP p2, L.length + 1, [], .slice none 0 0, true))
   ·repeat' (first | exact Ug | apply Ue rfl | apply Uf rfl)
   ·exact ⟨kA, by omega, fun _ => Nat.zero_le _, e3⟩
   ·exact by4
   ·exact (Vt _ (Vt _ (Vt _ (Vv _ (Vz (Vx _) (Vz (Vx _) (Vz (Vx _) (Vz (Vx _) (Vz (Vx _) (Vz (Le.nilOwn 5) (Vy _))))))) (Vr _)))))
   rintro ⟨q, f, acc, u, mo⟩ hI
   try dsimp only [List.cons_append, List.nil_append] at hI ⊢
   obtain ⟨i1, i2, i3, hu⟩ := hI
   have hq1 := i1.1
   refine Zf (Zf (Xj 26 (mo = true ∧ q.e = 0) ?_ _ _ V ?_))
   ·skip
    refine Za 19 V V V (Zd V V (Za 20 V V V (Zd V V ?_)))
    have h20 : (mo = true ↔ mo = true) := Iff.rfl
    rcases Zh h20 with ⟨rfl, g20⟩ | ⟨rfl, g20⟩
    ·skip
     refine Zi 21 V V V V V (Zi 22 V V V V V (Zi 23 V V V V V (Zi 24 V V V V V (Zi 25 V V V V V (Za 26 V V V (Zo V V V (Vq (Ub V ?_ by5 by3))))))))
     simp_all; done
    ·skip
     refine Zk 21 V V V V V (Zd V V (Zk 22 V V V V V (Yl V V (Zk 23 V V V V V (Zg V Vn V (Zk 24 V V V V V (Zl (i := 2) V Xf V V V (Zk 25 V V V V V (Yw V V V ?_))))))))); intro c25 h25
     refine Za 26 V V V (Zo V V V (Vq (Ub V ?_ by5 by3)))
     simp_all; done
   intro c26 h26
   refine Zb ?_
   rcases Zh h26 with ⟨rfl, g26⟩ | ⟨rfl, g26⟩
   ·refine Zn V (Yy (Xa (Xs (Yz (Yv ?_)))))
    first
    | (rw [if_neg (by decide)] at e3; cases e3; exact ⟨(), trivial, by4, (Vt _ (Vt _ (Vt _ (Vv _ by0 (MLe.nil)))))⟩)
    | (have hu2 : (acc, q) = (cxs, p3) := by
        cases mo with
        | false => exact hu
        | true => rw [if_pos rfl, ctxL_err (fun e => g26 ⟨rfl, e⟩)] at hu; exact hu
       simp only [Prod.mk.injEq] at hu2
       obtain ⟨rfl, rfl⟩ := hu2
       exact ⟨(), trivial, by4, (Vt _ (Vt _ (Vt _ (Vv _ by0 (Vu _ (MLe.nil))))))⟩)
   ·refine Zr V (Zt (Zb (Zw (Zf ?_))))
    obtain ⟨rfl, hq0⟩ := g26
    have i3 := i3 rfl
    have hle : (Pr.cellss acc).length ≤ 200000 := by rw [Pr.cellss_len]; omega
    rw [if_pos rfl] at hu
    obtain ⟨f, rfl⟩ : ∃ f', f = f' + 1 := ⟨f - 1, by omega⟩
    rw [ctxL, if_neg (by rw [hq0]; simp)] at hu
    have HP := take_c b L hL q i1.1 2 kE
    have l1 := (Yo (kind := 2) (s := kE) (by decide) i1).ok i1
    have b1 := (Yo (L := L) (kind := 2) (s := kE) (by decide) i1).1
    obtain ⟨z, hz⟩ : ∃ z, predP L q = z := ⟨_, rfl⟩
    rw [hz] at hu
    unfold predP at hz
    obtain ⟨⟨⟨ck, ct, cn, ca⟩, q1⟩, f1⟩ : ∃ r, takeP L q 2 kE = r := ⟨_, rfl⟩
    rw [f1] at HP hz l1 b1
    simp only [Tok.av] at HP hz l1 b1
    have HV := take_c b L hL q1 l1.1 1 kE
    have l2 := (Yo (kind := 1) (s := kE) (by decide) l1).ok l1
    have b2' := (Yo (L := L) (kind := 1) (s := kE) (by decide) l1).1
    obtain ⟨⟨⟨vk, vt, vn, va⟩, q2⟩, f2⟩ : ∃ r, takeP L q1 1 kE = r := ⟨_, rfl⟩
    rw [f2] at HV l2 b2' hz
    simp only [Tok.av] at HV l2 b2' hz
    subst hz
    simp only [] at hu
    have l2a := l2.1
    refine Zc (Za 27 V V V (Zd V V (Za 28 V V V (Yi (xs := [.tmp 27, .const (.int .i64 2), .const (.string ⟨#[]⟩)]) (i := 2) V V V (HP) by1 ?_))))
    refine Za 29 V V V (Vb (ft := 9) (fo := 1) V (by kernel_rfl) Xd V V ?_)
    refine Za 6 V V V (Ze V V (Vq (Zb (Zf (Zc (Za 30 V V V (Zd V V (Za 31 V V V (Yi (xs := [.tmp 30, .const (.int .i64 1), .const (.string ⟨#[]⟩)]) (i := 2) V V V (HV) by1 ?_)))))))))
    refine Za 32 V V V (Vb (ft := 9) (fo := 1) V (by kernel_rfl) Xd V V ?_)
    refine Za 7 V V V (Ze V V (Vq (Zb (Zf (Zc (Za 33 V V V (Zg V tf_73_2 V (Za 34 V V V (Zl (i := 3) V ta_22 V V V (Za 35 V V V (Zd V V (Za 36 V V V (Zd V V (Za 37 V V V (Yj (ns := [0, 1]) (xs := [.const (.int .i64 1), .tmp 36]) V tz_25 V tfl_25 V V V V (Za 38 V V V (Yj (ns := [0, 1]) (xs := [.tmp 35, .tmp 37]) V tz_27 V tfl_27 V V V V (Za 39 V V V (Yb (xs := [.tmp 38]) el_22 V V V V V V (Ud V) (Za 40 V V V (Xg (i := 4) el_22 V V V V (.seq _ _) by6 ?_)))))))))))))))))))))
    intro u40
    refine Za 41 V V V (Zg V tf_73_2 V (Zq V V (Zm (cs' := [_, _, _, _, _, _, _, _]) (i := 3) V ts_22 V V V V V (Ud V) V (Vq (Zb (Zc (Za 42 V V V (Zd V V (Za 43 V V V (op_mayc (xs := [.tmp 42, .const (.string ⟨#[44]⟩)]) (i := 2) V V V (may_c b L hL q2 kComma) by1 ?_ ?_))))))))))
    ·intro g43
     refine Za 5 V V V (Ze V V (Vq (Yn (Yv ?_))))
     first
     | (rw [if_pos g43] at hu; have l4 := (Xo l2 g43).ok l2; have l5 := (is_lt g43).2; exact ⟨(stepP q2, f, acc ++ [Pr.mk ct (Ty.mk 1 vt 0 [])], u40, true), ⟨l4, (by show L.length - (q2.at_ + 1) < f; omega), (fun _ => by show (acc ++ _).length ≤ q2.at_ + 1; rw [List.length_append]; simp; omega), hu⟩, (by show 2 * f + 1 < 2 * (f + 1) + 1; omega), Ua rfl (Vx _) by4, (Vt _ (Vt _ (Vt _ (Vv _ (Vz (Vx _) (Vz (Vx _) (Vz (Vx _) (Vz (Vx _) (Vz (Vx _) (Vz (preds_snoc acc ct vt) (Vy _))))))) (Vw rfl)))))⟩)
     | (rw [if_neg g43] at hu; exact ⟨(q2, f + 1, acc ++ [Pr.mk ct (Ty.mk 1 vt 0 [])], u40, false), ⟨l2, (by show L.length - q2.at_ < f + 1; omega), (fun h => by cases h), hu⟩, (by show 2 * (f + 1) + 0 < 2 * (f + 1) + 1; omega), Ua rfl (Vx _) by4, (Vt _ (Vt _ (Vt _ (Vv _ (Vz (Vx _) (Vz (Vx _) (Vz (Vx _) (Vz (Vx _) (Vz (Vx _) (Vz (preds_snoc acc ct vt) (Vy _))))))) (Vw rfl)))))⟩)
    ·intro g43
     refine Za 5 V V V (Ze V V (Vq (Yn (Yv ?_))))
     first
     | (rw [if_pos g43] at hu; have l4 := (Xo l2 g43).ok l2; have l5 := (is_lt g43).2; exact ⟨(stepP q2, f, acc ++ [Pr.mk ct (Ty.mk 1 vt 0 [])], u40, true), ⟨l4, (by show L.length - (q2.at_ + 1) < f; omega), (fun _ => by show (acc ++ _).length ≤ q2.at_ + 1; rw [List.length_append]; simp; omega), hu⟩, (by show 2 * f + 1 < 2 * (f + 1) + 1; omega), Ua rfl (Vx _) by4, (Vt _ (Vt _ (Vt _ (Vv _ (Vz (Vx _) (Vz (Vx _) (Vz (Vx _) (Vz (Vx _) (Vz (Vx _) (Vz (preds_snoc acc ct vt) (Vy _))))))) (Vw rfl)))))⟩)
     | (rw [if_neg g43] at hu; exact ⟨(q2, f + 1, acc ++ [Pr.mk ct (Ty.mk 1 vt 0 [])], u40, false), ⟨l2, (by show L.length - q2.at_ < f + 1; omega), (fun h => by cases h), hu⟩, (by show 2 * (f + 1) + 0 < 2 * (f + 1) + 1; omega), Ua rfl (Vx _) by4, (Vt _ (Vt _ (Vt _ (Vv _ (Vz (Vx _) (Vz (Vx _) (Vz (Vx _) (Vz (Vx _) (Vz (Vx _) (Vz (preds_snoc acc ct vt) (Vy _))))))) (Vw rfl)))))⟩)
 rintro z hI
 try dsimp only [List.cons_append, List.nil_append] at hI ⊢
 refine Zb (Zf (Zc (Za 44 V V V (Zd V V (Za 45 V V V (Yi (xs := [.tmp 44, .const (.int .i64 6), .const (.string ⟨#[119, 104, 101, 114, 101]⟩)]) (i := 2) V V V (H4) by1 ?_))))))
 refine Vq (Zb (Zf (Zw (Xx 112 13 ?_))))
 apply Xp [1, 3, 5, 6, 7, 8, 9, 10, 11, 12, 13, 14, 15, 16, 17, 18, 19, 20, 21, 22, 23, 24, 25, 26, 27, 28, 29, 30, 31, 32, 33, 34, 35, 36, 37, 38, 39, 40, 41, 42, 43, 44, 45, 46, 47, 48, 49, 50, 51, 52, 53, 54, 55, 56, 57, 58, 59, 60, 61, 62, 63, 64, 65, 66] (σ := PS × Nat × List Bi × Value) (fun zz => match zz with | (q, f, bs, v) => []) (fun zz => match zz with | (q, f, bs, v) => [.loc b3 (Tok.mk tk tt tn ta).av, .loc b2 zIn, .loc b (psC L q), .loc b4 [.val (.string tt), .val (.int .i64 hk), .val (.string hs), .val (.int .i64 hn), .seq 4 (Ty.cellss hl), .seq 5 (Pr.cellss cxs), .own v 13 (Bi.cellss bs), .val (.int .i64 ta)], .own 112 13 v]) (fun zz => match zz with | (q, f, bs, v) => POk L 302 q ∧ (q.e = 0 → L.length - q.at_ < f ∧ bs.length ≤ q.at_) ∧ insL L f q bs = (bl, p5)) (fun zz => match zz with | (q, f, bs, v) => f) ((p4, L.length + 1, [], .slice none 0 0))
 ·repeat' (first | exact Ug | apply Ue rfl | apply Uf rfl)
 ·exact ⟨k4, fun _ => ⟨by omega, Nat.zero_le _⟩, e5⟩
 ·exact by4
 ·exact (Vt _ (Vt _ (Vt _ (Vv _ (Vz (Vx _) (Vz (Vx _) (Vz (Vx _) (Vz (Vx _) (Vz (Vx _) (Vz (Vx _) (Vz (Le.nilOwn 13) (Vy _)))))))) (Vr _)))))
 rintro ⟨q, f, bs, v⟩ hI
 try dsimp only [List.cons_append, List.nil_append] at hI ⊢
 obtain ⟨i1, i2, hu⟩ := hI
 have hq1 := i1.1
 refine Zf (Zf (Zc (Za 46 V V V (Zd V V (Za 47 V V V (Yl V V (Za 48 V V V (Zg V Vn V (Za 49 V V V (Zl (i := 2) V Xf V V V (Za 50 V V V (Yw V V V ?_)))))))))))); intro c50 h50
 refine Za 51 V V V (Zd V V ?_)
 rcases Zh h50 with ⟨rfl, g50⟩ | ⟨rfl, g50⟩
 ·skip
  refine Zi 52 V V V V V (Zi 53 V V V V V (Zi 54 V V V V V (Za 55 V V V (Zo V V V (Vq (Zb (Zn V (Yy (Xa (Xs (Yz (Zb (Zf (Zc (Za 67 V V V (Zx (cs' := [_, _, _, _, _, _, _, _]) (i := 3) V ta_73 V V V V (Zq V V (Zm (cs' := [_, _, _, _, _, _, _, _]) (i := 1) V ts_73 V V V V V (Ud V) V (Vq (Zb (Ya ?_)))))))))))))))))))))
  first
  | (rw [insL_err g50] at hu; cases hu; subst hr; exact Ym (i := 1) rfl rfl rfl ta_73 rfl by0 (Vu _ (Vu _ (Vt _ (Vs _)))) ⟨rfl, rfl⟩)
  | (obtain ⟨f, rfl⟩ : ∃ f', f = f' + 1 := ⟨f - 1, by have := (i2 g50).1; omega⟩; rw [insL_end g50 g53] at hu; cases hu; subst hr; exact Ym (i := 1) rfl rfl rfl ta_73 rfl by0 (Vu _ (Vu _ (Vt _ (Vs _)))) ⟨rfl, rfl⟩)
 ·skip
  refine Zk 52 V V V V V (Zd V V (Zk 53 V V V V V (op_mayc (xs := [.tmp 52, .const (.string ⟨#[101, 110, 100]⟩)]) (i := 2) V V V (may_c b L hL q kEnd) by1 ?_ ?_)))
  ·intro g53
   refine Zk 54 V V V V V (We V V ?_); intro c54 h54
   try replace h54 := nott h54 h53
   obtain rfl : c54 = false := by
    cases c54 with
    | false => rfl
    | true => exact absurd (h54.1 rfl) (by decide)
   refine Za 55 V V V (Zo V V V (Vq (Zb (Zn V (Yy (Xa (Xs (Yz (Zb (Zf (Zc (Za 67 V V V (Zx (cs' := [_, _, _, _, _, _, _, _]) (i := 3) V ta_73 V V V V (Zq V V (Zm (cs' := [_, _, _, _, _, _, _, _]) (i := 1) V ts_73 V V V V V (Ud V) V (Vq (Zb (Ya ?_))))))))))))))))))
   first
   | (rw [insL_err g50] at hu; cases hu; subst hr; exact Ym (i := 1) rfl rfl rfl ta_73 rfl by0 (Vu _ (Vu _ (Vt _ (Vs _)))) ⟨rfl, rfl⟩)
   | (obtain ⟨f, rfl⟩ : ∃ f', f = f' + 1 := ⟨f - 1, by have := (i2 g50).1; omega⟩; rw [insL_end g50 g53] at hu; cases hu; subst hr; exact Ym (i := 1) rfl rfl rfl ta_73 rfl by0 (Vu _ (Vu _ (Vt _ (Vs _)))) ⟨rfl, rfl⟩)
  ·intro g53
   refine Zk 54 V V V V V (We V V ?_); intro c54 h54
   try replace h54 := nott h54 h53
   obtain rfl : c54 = true := h54.2 rfl
   refine Za 55 V V V (Zo V V V (Vq (Zb (Zr V (Zt (Zb (Zw (Zf ?_))))))))
   obtain ⟨i3, i4⟩ := i2 g50
   have hl2 : (Bi.cellss bs).length ≤ 200000 := by rw [Bi.cellss_len]; omega
   obtain ⟨f, rfl⟩ : ∃ f', f = f' + 1 := ⟨f - 1, by omega⟩
   rw [insL, if_neg (by rw [g50]; simp), if_neg g53] at hu
   have HD := take_c b L hL q hq1 6 kDef
   have l1 := (Yo (kind := 6) (s := kDef) (by decide) i1).ok i1
   have b1 := (Yo (L := L) (kind := 6) (s := kDef) (by decide) i1).1
   obtain ⟨⟨u7, q1⟩, f1⟩ : ∃ r, takeP L q 6 kDef = r := ⟨_, rfl⟩
   rw [f1] at HD l1 b1 hu
   simp only [] at HD l1 b1 hu
   have HB := bindP_c b L hL q1 l1
   have l2 := (bindP_adv l1).ok l1
   have b2' := (bindP_adv l1).1
   obtain ⟨⟨⟨bn, ⟨xk, xs, xn, ⟨xtk, xts, xtn, xtl⟩, xks, xal, xbs, xp⟩, bp⟩, q2⟩, f2⟩ : ∃ r, bindP L q1 = r := ⟨_, rfl⟩
   rw [f2] at HB l2 b2' hu
   simp only [Bi.cells, Ex.cells, Ty.cells, List.cons_append, List.nil_append] at HB l2 b2' hu
   have HS := take_c b L hL q2 l2.1 7 kSemi
   have hpr := take_prog (L := L) (p := q2) (kind := 7) (s := kSemi) (by decide)
   have l5 := (Yo (kind := 7) (s := kSemi) (by decide) l2).ok l2
   obtain ⟨⟨u6, q5⟩, f5⟩ : ∃ r, takeP L q2 7 kSemi = r := ⟨_, rfl⟩
   rw [f5] at HS hpr l5 hu
   simp only [Prod.mk.injEq] at HS hpr l5 hu
   refine Zc (Za 56 V V V (Zd V V (Za 57 V V V (Yi (xs := [.tmp 56, .const (.int .i64 6), .const (.string ⟨#[100, 101, 102]⟩)]) (i := 2) V V V (HD) by1 ?_))))
   refine Vq (Zb (Zf (Xu [0, 1, 2, 3, 4, 5, 6, 7] [3, 5, 7] [[], [0], [], [2], [2, 3], [0, 1, 2, 3, 4], [0, 1, 2, 3, 4, 5], [0, 1, 2, 3, 4, 5, 6]] Wk V (Zz 58 (none) (i := 0) V V V V V (Zg V tf_73_3 V ⟨V, V⟩) ?_))))
   refine Zz 59 (some 3) (i := 1) V V V V V (Zl (i := 0) V ta_53 V V V ⟨V, V⟩) ?_
   refine Zz 60 (none) (i := 2) V V V V V (Zd V V ⟨V, V⟩) ?_
   refine Xm 2 (i := 3) V V V V V (Yi (xs := [.tmp 60]) (i := 0) V V V (HB) by1 ⟨_, V, ?_⟩)
   refine Zz 62 (none) (i := 4) V V V V V (Yb (xs := [.tmp 61]) el_53 V V V V V V (Ud V) ⟨V, V⟩) ?_
   refine Xm 4 (i := 5) V V V V V (Xg (i := 0) el_53 V V V V (.seq _ _) by6 (fun u63 => ⟨_, V, ?_⟩))
   refine Zz 64 (none) (i := 6) V V V V V (Zg V tf_73_3 V ⟨V, V⟩) ?_
   refine Xm 3 (i := 7) V V V V V (Zm (cs' := [_, _, _, _, _, _, _, _]) (i := 0) V ts_53 V V V V V (Ud V) V ⟨_, V, ?_⟩)
   show AGo _ _ _ _ _ _ _
   refine Zb (Zc (Za 65 V V V (Zd V V (Za 66 V V V (Yi (xs := [.tmp 65, .const (.int .i64 7), .const (.string ⟨#[59]⟩)]) (i := 2) V V V (HS) by1 ?_)))))
   refine Vq (Yn (Yv ?_))
   exact ⟨(q5, f, bs ++ [Bi.mk bn (Ex.mk xk xs xn (Ty.mk xtk xts xtn xtl) xks xal xbs xp) bp], u63), ⟨l5, (fun e => by obtain ⟨⟨_, h5⟩, _, h6⟩ := hpr e; rw [h5]; refine ⟨?_, ?_⟩; (show L.length - (q2.at_ + 1) < f; omega); (show (bs ++ _).length ≤ q2.at_ + 1; rw [List.length_append]; simp; omega)), hu⟩, Nat.lt_succ_self f, by4, (Vt _ (Vt _ (Vt _ (Vv _ (Vz (Vx _) (Vz (Vx _) (Vz (Vx _) (Vz (Vx _) (Vz (Vx _) (Vz (Vx _) (Vz (Uc by10) (Vy _)))))))) (Vw rfl)))))⟩
theorem inst_c (b : Nat) (L : List Tok) (hL : L.length ≤ 100000) (p : PS) (k : POk L 302 p) : MCall Tryz.prog 54 [.ptr b 0] (.loc b (psC L p)) (.agg (instP L p).1.cells) (.loc b (psC L (instP L p).2)) := inst_b b L hL p k _ rfl
theorem begin_c (s : ByteArray) : ACall Tryz.prog 49 [.val (.string s)] [] (fun v M' => ∃ b, v = .ptr b 0 ∧ M' = [.loc b (psC (scanT s).1 (beginP (scanT s)))]) := by
 have HS := Scan_c s
 obtain ⟨⟨L, e, w⟩, hs⟩ : ∃ r, scanT s = r := ⟨_, rfl⟩
 rw [hs] at HS ⊢
 have HF := fun b => fail_c b L ⟨0, 0, 0, 0⟩ e w
 unfold beginP
 simp only [scanR] at HS ⊢
 refine Zu Tryz.func49 V (by kernel_rfl) V (Ud V) ?_
 refine Yf (Zf (Zc (Za 2 V V V (Ze V V (Vq (Zb (Zf (Zc (Za 8 V V V (Zd V V (Za 9 V V V (Yk (xs := [.tmp 8]) V V (HS) by1 ?_))))))))))))
 refine Za 7 V V V (Zd V V (Za 10 V V V (Xc V V V (Za 11 V V V (Xc V V V (Za 12 V V V (Xc V V V (Za 3 V V V (Ze V V (Za 4 V V V (Ze V V (Za 5 V V V (Ze V V (Vq (Zb (Zf (Zc (Za 13 V V V (Zd V V (Za 14 V V V (Yj (ns := [0]) (xs := [.tmp 13]) V tz_95 V tfl_95 V V V V (Za 15 V V V (op_boxe (cs' := [_, _, _, _, _]) V V V V ?_))))))))))))))))))))))); intro b15
 refine Za 6 V V V (Ze V V (Vq (Zb (Zf (Zf (Zc (Za 16 V V V (Zd V V (Za 17 V V V (Xw V V V ?_)))))))))); intro c17 h17
 refine Vq (Zb ?_)
 rcases Zh h17 with ⟨rfl, g17⟩ | ⟨rfl, g17⟩
 ·refine Zn V (Zt (Zb (Zf (Zc (Za 22 V V V (Zd V V (Za 2 V V V (Ze V V (Vq (Zb (Ya ?_)))))))))))
  first
  | (rw [if_pos g17]; exact Yg rfl rfl (Vx _) (Vw rfl) ⟨b15, rfl, rfl⟩)
  | (rw [if_neg g17]; exact Yg rfl rfl (Vx _) (Vw rfl) ⟨b15, rfl, rfl⟩)
 ·refine Zr V (Zc (Za 18 V V V (Zd V V (Za 19 V V V (Zd V V (Za 20 V V V (Zd V V (Za 21 V V V (Yi (xs := [.tmp 18, .tmp 19, .tmp 20]) (i := 0) V V V (HF b15) by1 ?_)))))))))
  refine Vq (Zb (Zf (Zc (Za 22 V V V (Zd V V (Za 2 V V V (Ze V V (Vq (Zb (Ya ?_))))))))))
  first
  | (rw [if_pos g17]; exact Yg rfl rfl (Vx _) (Vw rfl) ⟨b15, rfl, rfl⟩)
  | (rw [if_neg g17]; exact Yg rfl rfl (Vx _) (Vw rfl) ⟨b15, rfl, rfl⟩)
theorem progL_end {L : List Tok} {f : Nat} {p : PS} {x : Pg} (h : p.e ≠ 0 ∨ (nxt L p).k = 0) : progL L f p x = (x, p) := by
 cases f with
 | zero => rfl
 | succ f => rw [progL, if_pos h]
theorem Da.cellss_app' (a b : List Da) : Da.cellss (a ++ b) = Da.cellss a ++ Da.cellss b := by simp [Da.cellss]
theorem Cl.cellss_app' (a b : List Cl) : Cl.cellss (a ++ b) = Cl.cellss a ++ Cl.cellss b := by simp [Cl.cellss]
theorem In.cellss_app' (a b : List In) : In.cellss (a ++ b) = In.cellss a ++ In.cellss b := by simp [In.cellss]
abbrev zPg : List AV := [.val (.slice none 0 0), .val (.slice none 0 0), .val (.slice none 0 0), .val (.slice none 0 0)]
def progR (o : Pg × Int × Int) : AV := .tup [.agg o.1.cells, .val (.int .i64 o.2.1), .val (.int .i64 o.2.2)]
theorem begin_ok (s : ByteArray) : POk (scanT s).1 302 (beginP (scanT s)) := by
 have h : ∀ e w, POk (scanT s).1 302 (failP ⟨0, 0, 0, 0⟩ e w) := fun e w => by
  unfold failP
  refine ⟨?_, ?_, ?_, fun _ => ⟨?_, ?_⟩⟩ <;> simp
 unfold beginP
 split
 ·exact h _ _
 ·refine ⟨?_, ?_, ?_, fun _ => ⟨?_, ?_⟩⟩ <;> simp
theorem Prog_c (s : ByteArray) : PCall Tryz.prog 24 [.val (.string s)] (progR (progT s)) := by
 have HB := begin_c s
 have hL := scanT_len s
 have k0 := begin_ok s
 obtain ⟨r, hr⟩ : ∃ r, progT s = r := ⟨_, rfl⟩
 rw [hr]
 unfold progT at hr
 simp only [] at hr
 obtain ⟨L, hLe⟩ : ∃ L, (scanT s).1 = L := ⟨_, rfl⟩
 obtain ⟨p0, hp0⟩ : ∃ p, beginP (scanT s) = p := ⟨_, rfl⟩
 rw [hLe, hp0] at HB k0 hr
 rw [hLe] at hL
 have hL : L.length ≤ 100000 := by omega
 obtain ⟨⟨⟨fd, fc, fi, fb⟩, p9⟩, e9⟩ : ∃ r, progL L (L.length + 1) p0 pg0 = r := ⟨_, rfl⟩
 rw [e9] at hr
 simp only [] at hr
 refine Zu Tryz.func24 V (by kernel_rfl) V (Ud V) ?_
 refine Yf (Zf (Zc (Za 2 V V V (Zy (cs' := [_, _, _, _]) V tz_55 V V ?_)))); intro b2
 refine Za 3 V V V (Ze V V (Za 4 V V V (Ze V V (Vq (Zb (Zf (Zc (Za 7 V V V (Zd V V (Za 8 V V V (op_callat [] (xs := [.tmp 7]) V V V (HB) by1 ?_)))))))))))
 rintro v M' ⟨b, rfl, rfl⟩
 refine Za 5 V V V (Ze V V (Vq (Zb (Zf (Zc (Za 9 V V V (Yj (ns := []) (xs := []) V tz_55 V tfl_55 V V V V (Za 6 V V V (Zy (cs' := [_, _, _, _]) V tz_55 V V ?_))))))))); intro b6
 refine Zq V V (Zm (cs' := [_, _, _, _]) (i := 0) V ts_55 V V V V V (Ud V) V (Vq (Zb (Zf (Zw (Xx 102 5 (Xx 77 6 (Xx 73 8 (Xx 112 13 ?_)))))))))
 apply Xp [0, 1, 7, 8, 9, 10, 11, 12, 13, 14, 15, 16, 17, 18, 19, 20, 21, 22, 23, 24, 25, 26, 27, 28, 29, 30, 31, 32, 33, 34, 35, 36, 37, 38, 39, 40, 41, 42, 43, 44, 45, 46, 47, 48, 49, 50, 51, 52, 53, 54, 55, 56, 57, 58] (σ := PS × Nat × Pg × Value × Value × Value × Value) (fun zz => match zz with | (q, f, Pg.mk da cl ins bs, u1, u2, u3, u4) => []) (fun zz => match zz with | (q, f, Pg.mk da cl ins bs, u1, u2, u3, u4) => [.loc b6 [.own u1 5 (Da.cellss da), .own u2 6 (Cl.cellss cl), .own u3 8 (In.cellss ins), .own u4 13 (Bi.cellss bs)], .loc b (psC L q), .loc b2 zPg, .own 102 5 u1, .own 77 6 u2, .own 73 8 u3, .own 112 13 u4]) (fun zz => match zz with | (q, f, Pg.mk da cl ins bs, u1, u2, u3, u4) => POk L 302 q ∧ (q.e = 0 → L.length - q.at_ < f ∧ da.length + cl.length + ins.length + bs.length ≤ q.at_) ∧ progL L f q (Pg.mk da cl ins bs) = (Pg.mk fd fc fi fb, p9)) (fun zz => match zz with | (q, f, Pg.mk da cl ins bs, u1, u2, u3, u4) => f) ((p0, L.length + 1, Pg.mk [] [] [] [], .slice none 0 0, .slice none 0 0, .slice none 0 0, .slice none 0 0))
 ·repeat' (first | exact Ug | apply Ue rfl | apply Uf rfl)
 ·exact ⟨k0, fun _ => ⟨by omega, Nat.zero_le _⟩, e9⟩
 ·exact by4
 ·exact (Vv _ (Vz (Le.nilOwn 5) (Vz (Le.nilOwn 6) (Vz (Le.nilOwn 8) (Vz (Le.nilOwn 13) (Vy _))))) (Vw V))
 rintro ⟨q, f, ⟨da, cl, ins, bs⟩, u1, u2, u3, u4⟩ hI
 try dsimp only [List.cons_append, List.nil_append] at hI ⊢
 obtain ⟨i1, i2, hu⟩ := hI
 have hq1 := i1.1
 have HN := next_c b L q
 have hend := fun h => progL_end (L := L) (f := f) (p := q) (x := Pg.mk da cl ins bs) h
 obtain ⟨⟨qk, qt, qn, qa⟩, hqt⟩ : ∃ t, nxt L q = t := ⟨_, rfl⟩
 have hgo : ∀ f x, q.e = 0 → qk ≠ 0 → progL L (f + 1) q x = progL L f (takeP L (declP L q x).2 7 kSemi).2 (declP L q x).1 := fun f x h1 h2 => by
  rw [progL, hqt, if_neg (fun h => by rcases h with h | h; exact h h1; exact h2 h)]
 rw [hqt] at HN hend
 simp only [Tok.av] at HN hend
 refine Zf (Zf (Xj 20 (q.e = 0 ∧ qk ≠ 0) ?_ _ _ V ?_))
 ·skip
  refine Za 10 V V V (Zd V V (Za 11 V V V (Yl V V (Za 12 V V V (Zg V Vn V (Za 13 V V V (Zl (i := 1) V Xf V V V (Za 14 V V V (Yw V V V ?_))))))))); intro c14 h14
  refine Za 15 V V V (Zd V V ?_)
  rcases Zh h14 with ⟨rfl, g14⟩ | ⟨rfl, g14⟩
  ·skip
   refine Zi 16 V V V V V (Zi 17 V V V V V (Zi 18 V V V V V (Zi 19 V V V V V (Za 20 V V V (Zo V V V (Vq (Ub V ?_ by5 by3)))))))
   clear HN hend hgo HB; first | (simp_all; done) | grind
  ·skip
   refine Zk 16 V V V V V (Zd V V (Zk 17 V V V V V (Ws (xs := [.tmp 16]) [1] V V V (HN) by1 ?_)))
   refine Zk 18 V V V V V (Vb (ft := 3) (fo := 0) V (by kernel_rfl) Xf V V ?_)
   refine Zk 19 V V V V V (Xw V V V ?_); intro c19 h19
   refine Za 20 V V V (Zo V V V (Vq (Ub V ?_ by5 by3)))
   clear HN hend hgo HB; first | (simp_all; done) | grind
 intro c20 h20
 refine Zb ?_
 rcases Zh h20 with ⟨rfl, g20⟩ | ⟨rfl, g20⟩
 ·refine Zn V (Yy (Xa (Xs (Yz (Zb (Zf (Zf ?_)))))))
  have hx2 : q.e ≠ 0 ∨ qk = 0 := by
   rcases Classical.em (q.e = 0) with h | h
   ·exact .inr (Classical.not_not.1 fun h2 => g20 ⟨h, h2⟩)
   ·exact .inl h
  rw [hend hx2] at hu
  cases hu
  refine Zc (Za 59 V V V (Zd V V (Za 60 V V V (Yl V V (Za 61 V V V (Zg V Vn V (Za 62 V V V (Zl (i := 1) V Xf V V V (Za 63 V V V (Xw V V V ?_)))))))))); intro c63 h63
  refine Vq (Zb ?_)
  rcases Zh h63 with ⟨rfl, g63⟩ | ⟨rfl, g63⟩
  ·refine Zn V (Zt (Zb (Zf (Zc (Za 73 V V V (Zx (cs' := [_, _, _, _]) (i := 0) V ta_55 V V V V (Zq V V (Zm (cs' := [_, _, _, _]) (i := 2) V ts_55 V V V V V (Ud V) V (Za 3 V V V (Ze V V (Za 4 V V V (Ze V V (Vq (Zb (Ya ?_)))))))))))))))
   rw [if_neg g63] at hr; subst hr; exact Yp (i := 2) rfl rfl rfl rfl rfl ta_55 rfl by0 (Vs _) ⟨rfl, rfl⟩
  ·refine Zr V (Zf (Xu [0, 1, 2, 3, 4, 5, 6, 7, 8, 9, 10, 11] [9] [[], [], [1], [1, 2], [1, 2, 3], [], [5], [5, 6], [5, 6, 7], [0], [0, 1, 2, 3, 4, 9], [0, 1, 2, 3, 4, 5, 6, 7, 8, 9, 10]] Wk V (Zz 64 (none) (i := 0) V V V V V (Yj (ns := []) (xs := []) V tz_55 V tfl_55 V V V V ⟨V, V⟩) ?_)))
   refine Zz 65 (none) (i := 1) V V V V V (Zd V V ⟨V, V⟩) ?_
   refine Zz 66 (none) (i := 2) V V V V V (Yl V V ⟨V, V⟩) ?_
   refine Zz 67 (none) (i := 3) V V V V V (Zg V Vn V ⟨V, V⟩) ?_
   refine Zz 68 (some 1) (i := 4) V V V V V (Zl (i := 0) V Xf V V V ⟨V, V⟩) ?_
   refine Zz 69 (none) (i := 5) V V V V V (Zd V V ⟨V, V⟩) ?_
   refine Zz 70 (none) (i := 6) V V V V V (Yl V V ⟨V, V⟩) ?_
   refine Zz 71 (none) (i := 7) V V V V V (Zg V tf_95_4 V ⟨V, V⟩) ?_
   refine Zz 72 (some 1) (i := 8) V V V V V (Zl (i := 0) V Xf V V V ⟨V, V⟩) ?_
   refine Xm 2 (i := 9) V V V V V (Zm (cs' := [_, _, _, _]) (i := 0) V ts_55 V V V V V (Ud V) V ⟨_, V, ?_⟩)
   refine Zz 3 (none) (i := 10) V V V V V (Ze V V ⟨V, V⟩) ?_
   refine Zz 4 (none) (i := 11) V V V V V (Ze V V ⟨V, V⟩) ?_
   show AGo _ _ _ _ _ _ _
   refine Zb (Ya ?_)
   rw [if_pos g63] at hr; subst hr; exact Yp (i := 2) rfl rfl rfl rfl rfl ta_55 rfl by0 (Vs _) ⟨rfl, rfl⟩
 ·refine Zr V (Zt (Zb (Zw (Zf (Zf ?_)))))
  obtain ⟨i3, i4⟩ := i2 g20.1
  have hl1 : (Da.cellss da).length ≤ 200000 := by rw [Da.cellss_len]; omega
  have hl2 : (Cl.cellss cl).length ≤ 200000 := by rw [Cl.cellss_len]; omega
  have hl3 : (In.cellss ins).length ≤ 200000 := by rw [In.cellss_len]; omega
  have hl4 : (Bi.cellss bs).length ≤ 200000 := by rw [Bi.cellss_len]; omega
  obtain ⟨f, rfl⟩ : ∃ f', f = f' + 1 := ⟨f - 1, by omega⟩
  rw [hgo f _ g20.1 g20.2] at hu
  have l2 := (decl_adv (Pg.mk da cl ins bs) i1).ok i1
  have b2' := (decl_adv (Pg.mk da cl ins bs) i1).1
  obtain ⟨⟨x, q2⟩, hx⟩ : ∃ r, declP L q (Pg.mk da cl ins bs) = r := ⟨_, rfl⟩
  have hx0 := hx
  unfold declP at hx
  rw [hx0] at hu l2 b2'
  simp only [Pg.da, Pg.cl, Pg.ins, Pg.bs] at hu l2 b2' hx
  have HS := take_c b L hL q2 l2.1 7 kSemi
  have hpr := take_prog (L := L) (p := q2) (kind := 7) (s := kSemi) (by decide)
  have l5 := (Yo (kind := 7) (s := kSemi) (by decide) l2).ok l2
  obtain ⟨⟨u6, q5⟩, f5⟩ : ∃ r, takeP L q2 7 kSemi = r := ⟨_, rfl⟩
  rw [f5] at HS hpr l5 hu
  simp only [Prod.mk.injEq] at HS hpr l5 hu
  refine Zc (Za 21 V V V (Zd V V (Za 22 V V V (op_mayc (xs := [.tmp 21, .const (.string ⟨#[100, 97, 116, 97]⟩)]) (i := 1) V V V (may_c b L hL q kData) by1 ?_ ?_))))
  ·intro g22
   refine Vq (Zb (Zr V ?_))
   rw [if_pos g22] at hx
   have HX := data_c b L hL (stepP q) ((Xo i1 g22).ok i1)
   obtain ⟨⟨⟨xs, xps, xcs, xdv, xp⟩, q3⟩, e3⟩ : ∃ r, dataP L (stepP q) = r := ⟨_, rfl⟩
   rw [e3] at HX hx
   cases hx
   refine Xu [0, 1, 2, 3, 4, 5, 6, 7] [3, 5, 7] [[], [0], [], [2], [2, 3], [0, 1, 2, 3, 4], [0, 1, 2, 3, 4, 5], [0, 1, 2, 3, 4, 5, 6]] Wk V (Zz 23 (none) (i := 0) V V V V V (Zg V tf_55_0 V ⟨V, V⟩) ?_)
   refine Zz 24 (some 0) (i := 1) V V V V V (Zl (i := 0) V ta_34 V V V ⟨V, V⟩) ?_
   refine Zz 25 (none) (i := 2) V V V V V (Zd V V ⟨V, V⟩) ?_
   refine Xm 1 (i := 3) V V V V V (Yi (xs := [.tmp 25]) (i := 0) V V V (HX) by1 ⟨_, V, ?_⟩)
   refine Zz 27 (none) (i := 4) V V V V V (Yb (xs := [.tmp 26]) el_34 V V V V V V (Ud V) ⟨V, V⟩) ?_
   refine Xm 3 (i := 5) V V V V V (Xg (i := 0) el_34 V V V V (.seq _ _) by6 (fun u28 => ⟨_, V, ?_⟩))
   refine Zz 29 (none) (i := 6) V V V V V (Zg V tf_55_0 V ⟨V, V⟩) ?_
   refine Xm 0 (i := 7) V V V V V (Zm (cs' := [_, _, _, _]) (i := 0) V ts_34 V V V V V (Ud V) V ⟨_, V, ?_⟩)
   show AGo _ _ _ _ _ _ _
   refine Zb (Zc (Za 57 V V V (Zd V V (Za 58 V V V (Yi (xs := [.tmp 57, .const (.int .i64 7), .const (.string ⟨#[59]⟩)]) (i := 1) V V V (HS) by1 ?_)))))
   refine Vq (Yn (Yv ?_))
   first
   | exact ⟨(q5, f, Pg.mk (da ++ [Da.mk xs xps xcs xdv xp]) cl ins bs, u28, u2, u3, u4), ⟨l5, (fun e => by obtain ⟨⟨_, h5⟩, _, h6⟩ := hpr e; have b3 : q.at_ ≤ q3.at_ := b2'; rw [h5]; simp only [stepP, List.length_append, List.length_singleton]; omega), hu⟩, Nat.lt_succ_self f, by4, (Vv _ (Vz (Uc (by rw [Da.cellss_app']; rfl)) (Vy _)) (Vw rfl))⟩
   | exact ⟨(q5, f, Pg.mk da (cl ++ [Cl.mk xs xv xsu xms xds xp]) ins bs, u1, u37, u3, u4), ⟨l5, (fun e => by obtain ⟨⟨_, h5⟩, _, h6⟩ := hpr e; have b3 : q.at_ ≤ q3.at_ := b2'; rw [h5]; simp only [stepP, List.length_append, List.length_singleton]; omega), hu⟩, Nat.lt_succ_self f, by4, (Vv _ (Vz (Vx _) (Vz (Uc (by rw [Cl.cellss_app']; rfl)) (Vy _))) (Vw rfl))⟩
   | exact ⟨(q5, f, Pg.mk da cl (ins ++ [In.mk xc (Ty.mk xhk xhs xhn xhl) xcx xbs xp]) bs, u1, u2, u46, u4), ⟨l5, (fun e => by obtain ⟨⟨_, h5⟩, _, h6⟩ := hpr e; have b3 : q.at_ ≤ q3.at_ := b2'; rw [h5]; simp only [stepP, List.length_append, List.length_singleton]; omega), hu⟩, Nat.lt_succ_self f, by4, (Vv _ (Vz (Vx _) (Vz (Vx _) (Vz (Uc (by rw [In.cellss_app']; rfl)) (Vy _)))) (Vw rfl))⟩
   | exact ⟨(q5, f, Pg.mk da cl ins (bs ++ [Bi.mk bn (Ex.mk xk xs xn (Ty.mk xtk xts xtn xtl) xks xal xbs xp) bp]), u1, u2, u3, u55), ⟨l5, (fun e => by obtain ⟨⟨_, h5⟩, _, h6⟩ := hpr e; have b3 : q.at_ ≤ q3.at_ := b2'; rw [h5]; simp only [stepP, List.length_append, List.length_singleton]; omega), hu⟩, Nat.lt_succ_self f, by4, (Vv _ (Vz (Vx _) (Vz (Vx _) (Vz (Vx _) (Vz (Uc by10) (Vy _))))) (Vw rfl))⟩
  ·intro g22
   refine Vq (Zb (Zn V (Zf (Zc (Za 30 V V V (Zd V V (Za 31 V V V (op_mayc (xs := [.tmp 30, .const (.string ⟨#[99, 108, 97, 115, 115]⟩)]) (i := 1) V V V (may_c b L hL q kClass) by1 ?_ ?_))))))))
   ·intro g31
    refine Vq (Zb (Zr V ?_))
    rw [if_neg g22, if_pos g31] at hx
    have HX := class_c b L hL (stepP q) ((Xo i1 g31).ok i1)
    obtain ⟨⟨⟨xs, xv, xsu, xms, xds, xp⟩, q3⟩, e3⟩ : ∃ r, classP L (stepP q) = r := ⟨_, rfl⟩
    rw [e3] at HX hx
    cases hx
    refine Xu [0, 1, 2, 3, 4, 5, 6, 7] [3, 5, 7] [[], [0], [], [2], [2, 3], [0, 1, 2, 3, 4], [0, 1, 2, 3, 4, 5], [0, 1, 2, 3, 4, 5, 6]] Wk V (Zz 32 (none) (i := 0) V V V V V (Zg V tf_55_1 V ⟨V, V⟩) ?_)
    refine Zz 33 (some 0) (i := 1) V V V V V (Zl (i := 0) V Vj V V V ⟨V, V⟩) ?_
    refine Zz 34 (none) (i := 2) V V V V V (Zd V V ⟨V, V⟩) ?_
    refine Xm 1 (i := 3) V V V V V (Yi (xs := [.tmp 34]) (i := 0) V V V (HX) by1 ⟨_, V, ?_⟩)
    refine Zz 36 (none) (i := 4) V V V V V (Yb (xs := [.tmp 35]) el_35 V V V V V V (Ud V) ⟨V, V⟩) ?_
    refine Xm 4 (i := 5) V V V V V (Xg (i := 0) el_35 V V V V (.seq _ _) by6 (fun u37 => ⟨_, V, ?_⟩))
    refine Zz 38 (none) (i := 6) V V V V V (Zg V tf_55_1 V ⟨V, V⟩) ?_
    refine Xm 0 (i := 7) V V V V V (Zm (cs' := [_, _, _, _]) (i := 0) V ts_35 V V V V V (Ud V) V ⟨_, V, ?_⟩)
    show AGo _ _ _ _ _ _ _
    refine Zb (Zc (Za 57 V V V (Zd V V (Za 58 V V V (Yi (xs := [.tmp 57, .const (.int .i64 7), .const (.string ⟨#[59]⟩)]) (i := 1) V V V (HS) by1 ?_)))))
    refine Vq (Yn (Yv ?_))
    first
    | exact ⟨(q5, f, Pg.mk (da ++ [Da.mk xs xps xcs xdv xp]) cl ins bs, u28, u2, u3, u4), ⟨l5, (fun e => by obtain ⟨⟨_, h5⟩, _, h6⟩ := hpr e; have b3 : q.at_ ≤ q3.at_ := b2'; rw [h5]; simp only [stepP, List.length_append, List.length_singleton]; omega), hu⟩, Nat.lt_succ_self f, by4, (Vv _ (Vz (Uc (by rw [Da.cellss_app']; rfl)) (Vy _)) (Vw rfl))⟩
    | exact ⟨(q5, f, Pg.mk da (cl ++ [Cl.mk xs xv xsu xms xds xp]) ins bs, u1, u37, u3, u4), ⟨l5, (fun e => by obtain ⟨⟨_, h5⟩, _, h6⟩ := hpr e; have b3 : q.at_ ≤ q3.at_ := b2'; rw [h5]; simp only [stepP, List.length_append, List.length_singleton]; omega), hu⟩, Nat.lt_succ_self f, by4, (Vv _ (Vz (Vx _) (Vz (Uc (by rw [Cl.cellss_app']; rfl)) (Vy _))) (Vw rfl))⟩
    | exact ⟨(q5, f, Pg.mk da cl (ins ++ [In.mk xc (Ty.mk xhk xhs xhn xhl) xcx xbs xp]) bs, u1, u2, u46, u4), ⟨l5, (fun e => by obtain ⟨⟨_, h5⟩, _, h6⟩ := hpr e; have b3 : q.at_ ≤ q3.at_ := b2'; rw [h5]; simp only [stepP, List.length_append, List.length_singleton]; omega), hu⟩, Nat.lt_succ_self f, by4, (Vv _ (Vz (Vx _) (Vz (Vx _) (Vz (Uc (by rw [In.cellss_app']; rfl)) (Vy _)))) (Vw rfl))⟩
    | exact ⟨(q5, f, Pg.mk da cl ins (bs ++ [Bi.mk bn (Ex.mk xk xs xn (Ty.mk xtk xts xtn xtl) xks xal xbs xp) bp]), u1, u2, u3, u55), ⟨l5, (fun e => by obtain ⟨⟨_, h5⟩, _, h6⟩ := hpr e; have b3 : q.at_ ≤ q3.at_ := b2'; rw [h5]; simp only [stepP, List.length_append, List.length_singleton]; omega), hu⟩, Nat.lt_succ_self f, by4, (Vv _ (Vz (Vx _) (Vz (Vx _) (Vz (Vx _) (Vz (Uc by10) (Vy _))))) (Vw rfl))⟩
   ·intro g31
    refine Vq (Zb (Zn V (Zf (Zc (Za 39 V V V (Zd V V (Za 40 V V V (op_mayc (xs := [.tmp 39, .const (.string ⟨#[105, 110, 115, 116, 97, 110, 99, 101]⟩)]) (i := 1) V V V (may_c b L hL q kInst) by1 ?_ ?_))))))))
    ·intro g40
     refine Vq (Zb (Zr V ?_))
     rw [if_neg g22, if_neg g31, if_pos g40] at hx
     have HX := inst_c b L hL (stepP q) ((Xo i1 g40).ok i1)
     obtain ⟨⟨⟨xc, ⟨xhk, xhs, xhn, xhl⟩, xcx, xbs, xp⟩, q3⟩, e3⟩ : ∃ r, instP L (stepP q) = r := ⟨_, rfl⟩
     rw [e3] at HX hx
     simp only [In.cells, Ty.cells, List.cons_append, List.nil_append] at HX
     cases hx
     refine Xu [0, 1, 2, 3, 4, 5, 6, 7] [3, 5, 7] [[], [0], [], [2], [2, 3], [0, 1, 2, 3, 4], [0, 1, 2, 3, 4, 5], [0, 1, 2, 3, 4, 5, 6]] Wk V (Zz 41 (none) (i := 0) V V V V V (Zg V tf_55_2 V ⟨V, V⟩) ?_)
     refine Zz 42 (some 0) (i := 1) V V V V V (Zl (i := 0) V ta_36 V V V ⟨V, V⟩) ?_
     refine Zz 43 (none) (i := 2) V V V V V (Zd V V ⟨V, V⟩) ?_
     refine Xm 1 (i := 3) V V V V V (Yi (xs := [.tmp 43]) (i := 0) V V V (HX) by1 ⟨_, V, ?_⟩)
     refine Zz 45 (none) (i := 4) V V V V V (Yb (xs := [.tmp 44]) el_36 V V V V V V (Ud V) ⟨V, V⟩) ?_
     refine Xm 5 (i := 5) V V V V V (Xg (i := 0) el_36 V V V V (.seq _ _) by6 (fun u46 => ⟨_, V, ?_⟩))
     refine Zz 47 (none) (i := 6) V V V V V (Zg V tf_55_2 V ⟨V, V⟩) ?_
     refine Xm 0 (i := 7) V V V V V (Zm (cs' := [_, _, _, _]) (i := 0) V ts_36 V V V V V (Ud V) V ⟨_, V, ?_⟩)
     show AGo _ _ _ _ _ _ _
     refine Zb (Zc (Za 57 V V V (Zd V V (Za 58 V V V (Yi (xs := [.tmp 57, .const (.int .i64 7), .const (.string ⟨#[59]⟩)]) (i := 1) V V V (HS) by1 ?_)))))
     refine Vq (Yn (Yv ?_))
     first
     | exact ⟨(q5, f, Pg.mk (da ++ [Da.mk xs xps xcs xdv xp]) cl ins bs, u28, u2, u3, u4), ⟨l5, (fun e => by obtain ⟨⟨_, h5⟩, _, h6⟩ := hpr e; have b3 : q.at_ ≤ q3.at_ := b2'; rw [h5]; simp only [stepP, List.length_append, List.length_singleton]; omega), hu⟩, Nat.lt_succ_self f, by4, (Vv _ (Vz (Uc (by rw [Da.cellss_app']; rfl)) (Vy _)) (Vw rfl))⟩
     | exact ⟨(q5, f, Pg.mk da (cl ++ [Cl.mk xs xv xsu xms xds xp]) ins bs, u1, u37, u3, u4), ⟨l5, (fun e => by obtain ⟨⟨_, h5⟩, _, h6⟩ := hpr e; have b3 : q.at_ ≤ q3.at_ := b2'; rw [h5]; simp only [stepP, List.length_append, List.length_singleton]; omega), hu⟩, Nat.lt_succ_self f, by4, (Vv _ (Vz (Vx _) (Vz (Uc (by rw [Cl.cellss_app']; rfl)) (Vy _))) (Vw rfl))⟩
     | exact ⟨(q5, f, Pg.mk da cl (ins ++ [In.mk xc (Ty.mk xhk xhs xhn xhl) xcx xbs xp]) bs, u1, u2, u46, u4), ⟨l5, (fun e => by obtain ⟨⟨_, h5⟩, _, h6⟩ := hpr e; have b3 : q.at_ ≤ q3.at_ := b2'; rw [h5]; simp only [stepP, List.length_append, List.length_singleton]; omega), hu⟩, Nat.lt_succ_self f, by4, (Vv _ (Vz (Vx _) (Vz (Vx _) (Vz (Uc (by rw [In.cellss_app']; rfl)) (Vy _)))) (Vw rfl))⟩
     | exact ⟨(q5, f, Pg.mk da cl ins (bs ++ [Bi.mk bn (Ex.mk xk xs xn (Ty.mk xtk xts xtn xtl) xks xal xbs xp) bp]), u1, u2, u3, u55), ⟨l5, (fun e => by obtain ⟨⟨_, h5⟩, _, h6⟩ := hpr e; have b3 : q.at_ ≤ q3.at_ := b2'; rw [h5]; simp only [stepP, List.length_append, List.length_singleton]; omega), hu⟩, Nat.lt_succ_self f, by4, (Vv _ (Vz (Vx _) (Vz (Vx _) (Vz (Vx _) (Vz (Uc by10) (Vy _))))) (Vw rfl))⟩
    ·intro g40
     refine Vq (Zb (Zn V (Zf ?_)))
     rw [if_neg g22, if_neg g31, if_neg g40] at hx
     have HD := take_c b L hL q hq1 6 kDef
     have l1 := (Yo (kind := 6) (s := kDef) (by decide) i1).ok i1
     obtain ⟨⟨u7, q1⟩, f1⟩ : ∃ r, takeP L q 6 kDef = r := ⟨_, rfl⟩
     rw [f1] at HD l1 hx
     simp only [] at HD l1 hx
     have HX := bindP_c b L hL q1 l1
     obtain ⟨⟨⟨bn, ⟨xk, xs, xn, ⟨xtk, xts, xtn, xtl⟩, xks, xal, xbs, xp⟩, bp⟩, q3⟩, e3⟩ : ∃ r, bindP L q1 = r := ⟨_, rfl⟩
     rw [e3] at HX hx
     simp only [Bi.cells, Ex.cells, Ty.cells, List.cons_append, List.nil_append] at HX
     cases hx
     refine Zc (Za 48 V V V (Zd V V (Za 49 V V V (Yi (xs := [.tmp 48, .const (.int .i64 6), .const (.string ⟨#[100, 101, 102]⟩)]) (i := 1) V V V (HD) by1 ?_))))
     refine Vq (Zb (Xu [0, 1, 2, 3, 4, 5, 6, 7] [3, 5, 7] [[], [0], [], [2], [2, 3], [0, 1, 2, 3, 4], [0, 1, 2, 3, 4, 5], [0, 1, 2, 3, 4, 5, 6]] Wk V (Zz 50 (none) (i := 0) V V V V V (Zg V tf_55_3 V ⟨V, V⟩) ?_)))
     refine Zz 51 (some 0) (i := 1) V V V V V (Zl (i := 0) V ta_53 V V V ⟨V, V⟩) ?_
     refine Zz 52 (none) (i := 2) V V V V V (Zd V V ⟨V, V⟩) ?_
     refine Xm 1 (i := 3) V V V V V (Yi (xs := [.tmp 52]) (i := 0) V V V (HX) by1 ⟨_, V, ?_⟩)
     refine Zz 54 (none) (i := 4) V V V V V (Yb (xs := [.tmp 53]) el_53 V V V V V V (Ud V) ⟨V, V⟩) ?_
     refine Xm 6 (i := 5) V V V V V (Xg (i := 0) el_53 V V V V (.seq _ _) by6 (fun u55 => ⟨_, V, ?_⟩))
     refine Zz 56 (none) (i := 6) V V V V V (Zg V tf_55_3 V ⟨V, V⟩) ?_
     refine Xm 0 (i := 7) V V V V V (Zm (cs' := [_, _, _, _]) (i := 0) V ts_53 V V V V V (Ud V) V ⟨_, V, ?_⟩)
     show AGo _ _ _ _ _ _ _
     refine Zb (Zc (Za 57 V V V (Zd V V (Za 58 V V V (Yi (xs := [.tmp 57, .const (.int .i64 7), .const (.string ⟨#[59]⟩)]) (i := 1) V V V (HS) by1 ?_)))))
     refine Vq (Yn (Yv ?_))
     first
     | exact ⟨(q5, f, Pg.mk (da ++ [Da.mk xs xps xcs xdv xp]) cl ins bs, u28, u2, u3, u4), ⟨l5, (fun e => by obtain ⟨⟨_, h5⟩, _, h6⟩ := hpr e; have b3 : q.at_ ≤ q3.at_ := b2'; rw [h5]; simp only [stepP, List.length_append, List.length_singleton]; omega), hu⟩, Nat.lt_succ_self f, by4, (Vv _ (Vz (Uc (by rw [Da.cellss_app']; rfl)) (Vy _)) (Vw rfl))⟩
     | exact ⟨(q5, f, Pg.mk da (cl ++ [Cl.mk xs xv xsu xms xds xp]) ins bs, u1, u37, u3, u4), ⟨l5, (fun e => by obtain ⟨⟨_, h5⟩, _, h6⟩ := hpr e; have b3 : q.at_ ≤ q3.at_ := b2'; rw [h5]; simp only [stepP, List.length_append, List.length_singleton]; omega), hu⟩, Nat.lt_succ_self f, by4, (Vv _ (Vz (Vx _) (Vz (Uc (by rw [Cl.cellss_app']; rfl)) (Vy _))) (Vw rfl))⟩
     | exact ⟨(q5, f, Pg.mk da cl (ins ++ [In.mk xc (Ty.mk xhk xhs xhn xhl) xcx xbs xp]) bs, u1, u2, u46, u4), ⟨l5, (fun e => by obtain ⟨⟨_, h5⟩, _, h6⟩ := hpr e; have b3 : q.at_ ≤ q3.at_ := b2'; rw [h5]; simp only [stepP, List.length_append, List.length_singleton]; omega), hu⟩, Nat.lt_succ_self f, by4, (Vv _ (Vz (Vx _) (Vz (Vx _) (Vz (Uc (by rw [In.cellss_app']; rfl)) (Vy _)))) (Vw rfl))⟩
     | exact ⟨(q5, f, Pg.mk da cl ins (bs ++ [Bi.mk bn (Ex.mk xk xs xn (Ty.mk xtk xts xtn xtl) xks xal xbs xp) bp]), u1, u2, u3, u55), ⟨l5, (fun e => by obtain ⟨⟨_, h5⟩, _, h6⟩ := hpr e; have b3 : q.at_ ≤ q3.at_ := b2'; rw [h5]; simp only [stepP, List.length_append, List.length_singleton]; omega), hu⟩, Nat.lt_succ_self f, by4, (Vv _ (Vz (Vx _) (Vz (Vx _) (Vz (Vx _) (Vz (Uc by10) (Vy _))))) (Vw rfl))⟩
def envR (s : ByteArray) : En × Bool :=
 if 3000 < (s.size : Int) then (.mk [] [] [], false)
 else if (progT s).2.1 ≠ 0 ∨ (checkR (progT s).1).1 ≠ 0 then (.mk [] [] [], false)
 else (envOf (progT s).1, decide ((progT s).1.cl.length ≤ 12 ∧ (progT s).1.ins.length ≤ 30))
theorem envR_ok {s : ByteArray} (h : (envR s).2 = true) : EnC (envR s).1 ∧ (envR s).1.cl.length ≤ 12 ∧ (envR s).1.ins.length ≤ 30 := by
 unfold envR at h ⊢
 split at h
 ·simp at h
 rename_i h1
 split at h
 ·simp at h
 rename_i h2
 rw [if_neg h1, if_neg h2]
 simp only [decide_eq_true_eq] at h
 refine ⟨check_c (progT_g s).1 (by omega), ?_⟩
 generalize (progT s).1 = x at h
 obtain ⟨da, cl, ins, bs⟩ := x
 exact h
theorem Env_c (s : ByteArray) : PCall Tryz.prog 9 [.val (.string s)] (.tup [.agg (envR s).1.cells, .val (.bool (envR s).2)]) := by
 have HP := Prog_c s
 have HC := fun (p : Pg) hp hb => Check_c p hp hb
 obtain ⟨hg, hb⟩ := progT_g s
 have HC := HC _ hg.b hb
 obtain ⟨r, hr⟩ : ∃ r, envR s = r := ⟨_, rfl⟩
 rw [hr]
 unfold envR at hr
 unfold progR at HP
 generalize progT s = o at *
 obtain ⟨⟨da, cl, ins, bs⟩, e, w⟩ := o
 generalize checkR (.mk da cl ins bs) = f at *
 obtain ⟨f1, f2⟩ := f
 have hcl := Cl.cellss_len cl
 have hin := In.cellss_len ins
 simp only [Pg.cells, faultA] at HP HC
 refine Zu Tryz.func9 V (by kernel_rfl) V (Ud V) ?_
 refine Yf (Zf (Zc (Za 2 V V V (Zy (cs' := [_, _, _]) V tz_38 V V ?_)))); intro b2
 refine Za 3 V V V (Ze V V (Vq (Zb (Zf (Zf (Zc (Za 7 V V V (Zd V V (Za 8 V V V (Xv V Wq V (Za 9 V V V (Wv V V V ?_)))))))))))); intro c9 h9
 refine Vq (Zb ?_)
 rcases Zh h9 with ⟨rfl, g9⟩ | ⟨rfl, g9⟩
 ·refine Zn V (Zt (Zb (Zf ?_)))
  rw [if_neg g9] at hr
  refine Zc (Za 12 V V V (Zd V V (Za 13 V V V (Yk (xs := [.tmp 12]) V V (HP) by1 ?_))))
  refine Za 11 V V V (Zd V V (Za 14 V V V (Xc V V V (Za 15 V V V (Xc V V V (Za 16 V V V (Xc V V V (Za 4 V V V (Zy (cs' := [_, _, _, _]) V tz_55 V V ?_))))))))); intro b4
  refine Zq V V (Zm (cs' := [_, _, _, _]) (i := 0) V ts_55 V V V V V (Ud V) V (Za 5 V V V (Ze V V (Za 6 V V V (Ze V V (Vq (Zb (Zf (Zf (Xj 24 (e ≠ 0 ∨ f1 ≠ 0) ?_ _ _ V ?_))))))))))
  ·skip
   refine Za 17 V V V (Zd V V (Za 18 V V V (Xw V V V ?_))); intro c18 h18
   refine Za 19 V V V (Zd V V ?_)
   rcases Zh h18 with ⟨rfl, g18⟩ | ⟨rfl, g18⟩
   ·skip
    refine Zk 20 V V V V V (Zx (cs' := [_, _, _, _]) (i := 0) V ta_55 V V V V (Zk 21 V V V V V (Yk (xs := [.tmp 20]) V V (HC) by1 ?_)))
    refine Zk 22 V V V V V (Vb (ft := 3) (fo := 0) V (by kernel_rfl) Xf V V ?_)
    refine Zk 23 V V V V V (Xw V V V ?_); intro c23 h23
    refine Za 24 V V V (Zo V V V (Vq (Ub V ?_ by5 by3)))
    first | (simp_all; done) | (simp_all; omega) | grind
   ·skip
    refine Zi 20 V V V V V (Zi 21 V V V V V (Zi 22 V V V V V (Zi 23 V V V V V (Za 24 V V V (Zo V V V (Vq (Ub V ?_ by5 by3)))))))
    first | (simp_all; done) | (simp_all; omega) | grind
  intro c24 h24
  refine Zb ?_
  rcases Zh h24 with ⟨rfl, g24⟩ | ⟨rfl, g24⟩
  ·refine Zn V (Zt (Zb (Zf ?_)))
   rw [if_neg g24] at hr
   refine Xu [0, 1, 2, 3, 4, 5, 6, 7, 8, 9, 10, 11, 12, 13, 14, 15, 16, 17, 18] [17] [[], [0], [], [2], [], [4], [0, 1, 2, 3, 4, 5], [], [7], [7, 8], [7, 8, 9], [7, 8, 9, 10], [7, 8, 9, 10, 11], [7, 8, 9, 10, 11, 12], [7, 8, 9, 10, 11, 12, 13], [7, 8, 9, 10, 11, 12, 13, 14], [7, 8, 9, 10, 11, 12, 13, 14, 15], [0, 1, 2, 3, 4, 5, 6, 7, 8, 9, 10, 11], [0, 1, 2, 3, 4, 5, 6, 7, 8, 9, 10, 11, 12, 13, 14, 15, 16, 17]] Wk V (Zz 26 (none) (i := 0) V V V V V (Zg V tf_55_0 V ⟨V, V⟩) ?_)
   refine Zz 27 (some 0) (i := 1) V V V V V (Zl (i := 0) V ta_34 V V V ⟨V, V⟩) ?_
   refine Zz 28 (none) (i := 2) V V V V V (Zg V tf_55_1 V ⟨V, V⟩) ?_
   refine Zz 29 (some 0) (i := 3) V V V V V (Zl (i := 0) V Vj V V V ⟨V, V⟩) ?_
   refine Zz 30 (none) (i := 4) V V V V V (Zg V tf_55_2 V ⟨V, V⟩) ?_
   refine Zz 31 (some 0) (i := 5) V V V V V (Zl (i := 0) V ta_36 V V V ⟨V, V⟩) ?_
   refine Zz 32 (none) (i := 6) V V V V V (Yj (ns := [0, 1, 2]) (xs := [.tmp 27, .tmp 29, .tmp 31]) V tz_38 V tfl_38 V V V V ⟨V, V⟩) ?_
   refine Zz 33 (none) (i := 7) V V V V V (Zg V tf_55_1 V ⟨V, V⟩) ?_
   refine Zz 34 (some 0) (i := 8) V V V V V (Zl (i := 0) V Vj V V V ⟨V, V⟩) ?_
   refine Zz 35 none (i := 9) V V V V V (Yx V tu_35 V (.seq _ _) (fun _ => ⟨V, V⟩)) ?_
   refine EOps.cm 36 (i := 10) V V V V (fun _ q => op_leq V V V q) ?_; intro c36 h36
   refine Zz 37 (none) (i := 11) V V V V V (Zd V V ⟨V, V⟩) ?_
   rcases Zh h36 with ⟨rfl, g36⟩ | ⟨rfl, g36⟩
   ·skip
    refine EOps.df 38 (i := 12) V V V V V V (EOps.df 39 (i := 13) V V V V V V (EOps.df 40 (i := 14) V V V V V V (EOps.df 41 (i := 15) V V V V V V (Zz 42 (none) (i := 16) V V V V V (Zo V V V ⟨V, V⟩) ?_))))
    refine Xm 1 (i := 17) V V V V V (Zm (cs' := [_, _, _]) (i := 0) V ts_38 V V V V V (Ud V) V ⟨_, V, ?_⟩)
    refine Zz 3 (none) (i := 18) V V V V V (Ze V V ⟨V, V⟩) ?_
    show AGo _ _ _ _ _ _ _
    refine Zb (Ya ?_)
    have hr : (En.mk da cl ins, decide (cl.length ≤ 12 ∧ ins.length ≤ 30)) = r := hr
    first
     | (have hd : decide (cl.length ≤ 12 ∧ ins.length ≤ 30) = false := decide_eq_false (by omega)
        rw [hd] at hr; subst hr
        exact Va (i := 1) V V V V Wf V by0 (Vs _) ⟨V, V⟩)
     | (rcases Zh h41 with ⟨rfl, g41⟩ | ⟨rfl, g41⟩
        ·have hd : decide (cl.length ≤ 12 ∧ ins.length ≤ 30) = false := decide_eq_false (by omega)
         rw [hd] at hr; subst hr
         exact Va (i := 1) V V V V Wf V by0 (Vs _) ⟨V, V⟩
        ·have hd : decide (cl.length ≤ 12 ∧ ins.length ≤ 30) = true := decide_eq_true (by omega)
         rw [hd] at hr; subst hr
         exact Va (i := 1) V V V V Wf V by0 (Vs _) ⟨V, V⟩)
   ·skip
    refine EOps.dg 38 (none) (i := 12) V V V V V V V (Zg V tf_55_2 V ⟨V, V⟩) ?_
    refine EOps.dg 39 (some 0) (i := 13) V V V V V V V (Zl (i := 0) V ta_36 V V V ⟨V, V⟩) ?_
    refine EOps.dg 40 none (i := 14) V V V V V V V (Yx V tu_36 V (.seq _ _) (fun _ => ⟨V, V⟩)) ?_
    refine EOps.cmg 41 (i := 15) V V V V V V (fun _ q => op_leq V V V q) ?_; intro c41 h41
    refine Zz 42 (none) (i := 16) V V V V V (Zo V V V ⟨V, V⟩) ?_
    refine Xm 1 (i := 17) V V V V V (Zm (cs' := [_, _, _]) (i := 0) V ts_38 V V V V V (Ud V) V ⟨_, V, ?_⟩)
    refine Zz 3 (none) (i := 18) V V V V V (Ze V V ⟨V, V⟩) ?_
    show AGo _ _ _ _ _ _ _
    refine Zb (Ya ?_)
    have hr : (En.mk da cl ins, decide (cl.length ≤ 12 ∧ ins.length ≤ 30)) = r := hr
    first
     | (have hd : decide (cl.length ≤ 12 ∧ ins.length ≤ 30) = false := decide_eq_false (by omega)
        rw [hd] at hr; subst hr
        exact Va (i := 1) V V V V Wf V by0 (Vs _) ⟨V, V⟩)
     | (rcases Zh h41 with ⟨rfl, g41⟩ | ⟨rfl, g41⟩
        ·have hd : decide (cl.length ≤ 12 ∧ ins.length ≤ 30) = false := decide_eq_false (by omega)
         rw [hd] at hr; subst hr
         exact Va (i := 1) V V V V Wf V by0 (Vs _) ⟨V, V⟩
        ·have hd : decide (cl.length ≤ 12 ∧ ins.length ≤ 30) = true := decide_eq_true (by omega)
         rw [hd] at hr; subst hr
         exact Va (i := 1) V V V V Wf V by0 (Vs _) ⟨V, V⟩)
  ·refine Zr V (Zf (Zc (Za 25 V V V (Yj (ns := []) (xs := []) V tz_38 V tfl_38 V V V V (Zq V V (Zm (cs' := [_, _, _]) (i := 1) V ts_38 V V V V V (Ud V) V (Za 3 V V V (Ze V V (Vq (Zb (Ya ?_)))))))))))
   rw [if_pos g24] at hr; subst hr; exact Va (i := 1) rfl rfl rfl rfl Wf rfl by0 (Vs _) ⟨rfl, rfl⟩
 ·refine Zr V (Zf (Zc (Za 10 V V V (Yj (ns := []) (xs := []) V tz_38 V tfl_38 V V V V (Zq V V (Zm (cs' := [_, _, _]) (i := 0) V ts_38 V V V V V (Ud V) V (Za 3 V V V (Ze V V (Vq (Zb (Ya ?_)))))))))))
  rw [if_pos g9] at hr; subst hr; exact Va (i := 0) rfl rfl rfl rfl Wf rfl by0 (Vs _) ⟨rfl, rfl⟩
theorem src_size : ¬ (3000 < (srcB.size : Int)) := by decide +kernel
theorem src_env : envR srcB = (envOf srcPg, true) := by
 unfold envR
 rw [if_neg src_size, src_pg]
 simp only []
 rw [src_check]
 simp only []
 rw [if_neg (by simp)]
 simp [srcPg, Pg.cl, Pg.ins]
theorem srcC_ok : EnC (envOf srcPg) := by
 have h := envR_ok (s := srcB) (by rw [src_env])
 rw [src_env] at h
 exact h.1
theorem src_p1 : proveF (envOf srcPg) [] 10 (.mk sEq (tyc sList [tyc sInt []])) = (.mk 3 1 kE [.mk 3 0 kE []], true) := by kernel_rfl
theorem src_p2 : proveF (envOf srcPg) [.mk sOrd (tyv sa)] 10 (.mk sEq (tyv sa)) = (.mk 2 0 sOrd [.mk 1 0 kE []], true) := by kernel_rfl
theorem con_c (s : ByteArray) (l : List Ty) : PCall Tryz.prog 23 [.val (.string s), .seq 4 (Ty.cellss l)] (.agg (tyc s l).cells) := by
 simp only [tyc, Ty.cells]
 refine Zu Tryz.func23 V (by kernel_rfl) V (Ud V) ?_
 refine Yf (Zf (Zc (Za 4 V V V (Zy (cs' := [_, _, _, _]) V tz_25 V V ?_)))); intro b4
 exact Vq (Zb (Zf (Zc (Za 5 V V V (Zd V V (Za 6 V V V (Zd V V (Za 7 V V V (Yj (ns := [0, 1, 3]) (xs := [.const (.int .i64 3), .tmp 5, .tmp 6]) V tz_25 V tfl_25 V V V V (Zq V V (Zm (cs' := [_, _, _, _]) (i := 0) V ts_25 V V V V V (Ud V) V (Vq (Zb (Ya (Ym (i := 0) V V V Xq V (Vx _) (Vs _) ⟨V, V⟩)))))))))))))))
theorem awake_c : BCall Tryz.prog 8 [] True := by
 have HE := Env_c srcB
 rw [src_env] at HE
 have H1 := con_c sInt []
 have H2 := con_c sList [tyc sInt []]
 have HP := Prove_c (envOf srcPg) srcC_ok [] 10 (.mk sEq (tyc sList [tyc sInt []])) (by decide) (by decide)
 rw [src_p1] at HP
 have HQ := Prove_c (envOf srcPg) srcC_ok [.mk sOrd (tyv sa)] 10 (.mk sEq (tyv sa)) (by decide) (by decide)
 rw [src_p2] at HQ
 generalize envOf srcPg = v at *
 obtain ⟨da, cl, ins⟩ := v
 simp only [En.cells, tyc, tyv, Ty.cells, Ty.cellss, Pr.cells, Pf.cells, Pf.cellss, Pr.cellss, List.map] at HE H1 H2 HP HQ
 refine Zu Tryz.func8 V (by kernel_rfl) V (Ud V) ?_
 refine Yf (Zf (Zc (Za 0 V V V (Ze V V (Vq (Zb (Zf (Zc (Za 9 V V V (Yk (xs := [.const (.string ⟨#[100, 97, 116, 97, 32, 76, 105, 115, 116, 32, 97, 32, 61, 32, 78, 105, 108, 32, 124, 32, 67, 111, 110, 115, 32, 97, 32, 40, 76, 105, 115, 116, 32, 97, 41, 59, 32, 99, 108, 97, 115, 115, 32, 69, 113, 32, 97, 32, 119, 104, 101, 114, 101, 32, 101, 110, 100, 59, 32, 99, 108, 97, 115, 115, 32, 79, 114, 100, 32, 97, 32, 102, 114, 111, 109, 32, 69, 113, 32, 119, 104, 101, 114, 101, 32, 101, 110, 100, 59, 32, 105, 110, 115, 116, 97, 110, 99, 101, 32, 69, 113, 32, 73, 110, 116, 32, 119, 104, 101, 114, 101, 32, 101, 110, 100, 59, 32, 105, 110, 115, 116, 97, 110, 99, 101, 32, 69, 113, 32, 40, 76, 105, 115, 116, 32, 97, 41, 32, 102, 114, 111, 109, 32, 69, 113, 32, 97, 32, 119, 104, 101, 114, 101, 32, 101, 110, 100, 59, 32, 105, 110, 115, 116, 97, 110, 99, 101, 32, 79, 114, 100, 32, 40, 76, 105, 115, 116, 32, 97, 41, 32, 102, 114, 111, 109, 32, 79, 114, 100, 32, 97, 32, 119, 104, 101, 114, 101, 32, 101, 110, 100, 59]⟩)]) V V (HE) by1 ?_))))))))))
 refine Za 8 V V V (Zd V V (Za 10 V V V (Xc V V V (Za 11 V V V (Xc V V V (Za 1 V V V (Zy (cs' := [_, _, _]) V tz_38 V V ?_))))))); intro b1
 refine Zq V V (Zm (cs' := [_, _, _]) (i := 0) V ts_38 V V V V V (Ud V) V (Za 2 V V V (Ze V V (Vq (Zb (Zf (Xu [0, 1, 2, 3, 4, 5, 6, 7, 8, 9, 10, 11] [9, 10] [[], [], [1], [1, 2], [1, 2, 3], [0, 1, 2, 3, 4], [0, 1, 2, 3, 4, 5], [0, 1, 2, 3, 4, 5, 6], [0, 1, 2, 3, 4, 5, 6], [], [0, 1, 2, 3, 4, 5, 6, 7, 9], [0, 1, 2, 3, 4, 5, 6, 7, 8, 9, 10]] Wk V (Zz 13 (some 0) (i := 0) V V V V V (Zx (cs' := [_, _, _]) (i := 0) V Wf V V V V ⟨V, V⟩) ?_))))))))
 refine Zz 14 (none) (i := 1) V V V V V (Yk (xs := [.const (.string ⟨#[73, 110, 116]⟩), .const (.slice none 0 0)]) V V (H1) by1 ⟨V, V⟩) ?_
 refine Zz 15 (none) (i := 2) V V V V V (Yb (xs := [.tmp 14]) el_23 V V V V V V (Ud V) ⟨V, V⟩) ?_
 refine Zz 16 (none) (i := 3) V V V V V (Yk (xs := [.const (.string ⟨#[76, 105, 115, 116]⟩), .tmp 15]) V V (H2) by1 ⟨V, V⟩) ?_
 refine Zz 17 (none) (i := 4) V V V V V (Yj (ns := [0, 1]) (xs := [.const (.string ⟨#[69, 113]⟩), .tmp 16]) V tz_27 V tfl_27 V V V V ⟨V, V⟩) ?_
 refine Zz 18 (none) (i := 5) V V V V V (Yk (xs := [.tmp 13, .const (.slice none 0 0), .tmp 17]) V V (HP) by1 ⟨V, V⟩) ?_
 refine Zz 12 (none) (i := 6) V V V V V (Zd V V ⟨V, V⟩) ?_
 refine Zz 19 (none) (i := 7) V V V V V (Xc V V V ⟨V, V⟩) ?_
 refine Zz 20 (none) (i := 8) V V V V V (Xc V V V ⟨V, V⟩) ?_
 refine EOps.nw (i := 9) V V V (Zy (cs' := [_, _, _, _]) V tz_30 V V (fun b3 => ⟨_, V, ?_⟩))
 refine Xm 1 (i := 10) V V V V V (Zm (cs' := [_, _, _, _]) (i := 0) V ts_30 V V V V V (Ud V) V ⟨_, V, ?_⟩)
 refine Zz 4 (none) (i := 11) V V V V V (Ze V V ⟨V, V⟩) ?_
 show AGo _ _ _ _ _ _ _
 refine Zb (Zf (Zc (Za 21 V V V (Yj (ns := [0, 1]) (xs := [.const (.int .i64 1), .const (.string ⟨#[97]⟩)]) V tz_25 V tfl_25 V V V V ?_))))
 refine Za 5 V V V (Zy (cs' := [_, _, _, _]) V tz_25 V V ?_); intro b5
 refine Zq V V (Zm (cs' := [_, _, _, _]) (i := 0) V ts_25 V V V V V (Ud V) V (Vq (Zb (Zf (Zc (Za 23 V V V (Zx (cs' := [_, _, _]) (i := 1) V Wf V V V V (Za 24 V V V (Zx (cs' := [_, _, _, _]) (i := 0) V Xq V V V V (Za 25 V V V (Yj (ns := [0, 1]) (xs := [.const (.string ⟨#[79, 114, 100]⟩), .tmp 24]) V tz_27 V tfl_27 V V V V ?_)))))))))))
 refine Za 26 V V V (Yb (xs := [.tmp 25]) el_22 V V V V V V (Ud V) (Za 27 V V V (Zx (cs' := [_, _, _, _]) (i := 0) V Xq V V V V (Za 28 V V V (Yj (ns := [0, 1]) (xs := [.const (.string ⟨#[69, 113]⟩), .tmp 27]) V tz_27 V tfl_27 V V V V ?_)))))
 refine Za 29 V V V (op_callat [] (xs := [.tmp 23, .tmp 26, .tmp 28])  V V V HQ by0 ?_)
 rintro v29 M29 ⟨rfl, rfl⟩
 refine Za 22 V V V (Zd V V (Za 30 V V V (Xc V V V (Za 31 V V V (Xc V V V (Za 6 V V V (Zy (cs' := [_, _, _, _]) V tz_30 V V ?_))))))); intro b6
 refine Zq V V (Zm (cs' := [_, _, _, _]) (i := 0) V ts_30 V V V V V (Ud V) V (Za 7 V V V (Ze V V (Vq (Zb (Zf (Xj 0 (True) ?_ _ _ V ?_)))))))
 ·skip
  refine Za 32 V V V (Zd V V (Za 33 V V V (Zd V V (Zk 34 V V V V V (Zd V V (Za 35 V V V (Zo V V V (Za 36 V V V (Zd V V (Zk 37 V V V V V (Zd V V (Za 38 V V V (Zo V V V (Za 39 V V V (Zd V V (Zk 40 V V V V V (Zg V tf_30_0 V (Zk 41 V V V V V (Zl (i := 3) V Xf V V V (Zk 42 V V V V V (Yw V V V ?_))))))))))))))))))))); intro c42 h42
  refine Za 43 V V V (Zo V V V (Za 44 V V V (Zd V V ?_)))
  rcases Zh h42 with ⟨rfl, g42⟩ | ⟨rfl, g42⟩
  ·skip
   refine Zi 45 V V V V V (Zi 46 V V V V V (Zi 47 V V V V V (Zi 48 V V V V V (Za 49 V V V (Zo V V V (Za 50 V V V (Zd V V (Zi 51 V V V V V (Zi 52 V V V V V (Zi 53 V V V V V (Zi 54 V V V V V (Zi 55 V V V V V (Zi 56 V V V V V ?_)))))))))))))
   refine Za 57 V V V (Zo V V V (Za 58 V V V (Zd V V (Zi 59 V V V V V (Zi 60 V V V V V (Zi 61 V V V V V (Za 62 V V V (Zo V V V (Za 63 V V V (Zd V V (Zi 64 V V V V V (Zi 65 V V V V V (Zi 66 V V V V V (Zi 67 V V V V V (Za 68 V V V (Zo V V V ?_))))))))))))))))
   refine Za 69 V V V (Zd V V (Zi 70 V V V V V (Zi 71 V V V V V (Zi 72 V V V V V (Zi 73 V V V V V (Zi 74 V V V V V (Zi 75 V V V V V (Za 76 V V V (Zo V V V (Za 0 V V V (Ze V V (Vq (Ub V ?_ by5 by3)))))))))))))
   simp_all
  ·skip
   refine Zk 45 V V V V V (Zg V tf_30_3 V (Zk 46 V V V V V (Zl (i := 3) V ta_28 V V V ?_)))
   refine Zk 47 V V V V V (Yx V tu_28 V (.seq _ _) (fun n47 => ?_))
   refine Zk 48 V V V V V (Yw V V V ?_); intro c48 h48
   refine Za 49 V V V (Zo V V V (Za 50 V V V (Zd V V ?_)))
   rcases Zh h48 with ⟨rfl, g48⟩ | ⟨rfl, g48⟩
   ·skip
    refine Zi 51 V V V V V (Zi 52 V V V V V (Zi 53 V V V V V (Zi 54 V V V V V (Zi 55 V V V V V (Zi 56 V V V V V (Za 57 V V V (Zo V V V (Za 58 V V V (Zd V V (Zi 59 V V V V V (Zi 60 V V V V V (Zi 61 V V V V V (Za 62 V V V (Zo V V V ?_))))))))))))))
    refine Za 63 V V V (Zd V V (Zi 64 V V V V V (Zi 65 V V V V V (Zi 66 V V V V V (Zi 67 V V V V V (Za 68 V V V (Zo V V V (Za 69 V V V (Zd V V (Zi 70 V V V V V (Zi 71 V V V V V (Zi 72 V V V V V (Zi 73 V V V V V (Zi 74 V V V V V ?_))))))))))))))
    refine Zi 75 V V V V V (Za 76 V V V (Zo V V V (Za 0 V V V (Ze V V (Vq (Ub V ?_ by5 by3))))))
    simp_all
   ·skip
    refine Zk 51 V V V V V (Zg V tf_30_3 V (Zk 52 V V V V V (Zl (i := 3) V ta_28 V V V ?_)))
    refine Zk 53 V V V V V (Yd (i := 0) V te_28 V (.seq _ _) V V (by first | rfl | assumption) ?_)
    refine Zk 54 V V V V V (Zj V tf_30_0 V V (Zk 55 V V V V V (Zp V Xf V V (Zk 56 V V V V V (Yw V V V ?_))))); intro c56 h56
    refine Za 57 V V V (Zo V V V (Za 58 V V V (Zd V V ?_)))
    rcases Zh h56 with ⟨rfl, g56⟩ | ⟨rfl, g56⟩
    ·skip
     refine Zi 59 V V V V V (Zi 60 V V V V V (Zi 61 V V V V V (Za 62 V V V (Zo V V V (Za 63 V V V (Zd V V (Zi 64 V V V V V (Zi 65 V V V V V (Zi 66 V V V V V (Zi 67 V V V V V (Za 68 V V V (Zo V V V (Za 69 V V V (Zd V V (Zi 70 V V V V V ?_)))))))))))))))
     refine Zi 71 V V V V V (Zi 72 V V V V V (Zi 73 V V V V V (Zi 74 V V V V V (Zi 75 V V V V V (Za 76 V V V (Zo V V V (Za 0 V V V (Ze V V (Vq (Ub V ?_ by5 by3))))))))))
     simp_all
    ·skip
     refine Zk 59 V V V V V (Zg V tf_30_0 V (Zk 60 V V V V V (Zl (i := 0) V Xf V V V (Zk 61 V V V V V (Yw V V V ?_))))); intro c61 h61
     refine Za 62 V V V (Zo V V V (Za 63 V V V (Zd V V ?_)))
     rcases Zh h61 with ⟨rfl, g61⟩ | ⟨rfl, g61⟩
     ·skip
      refine Zi 64 V V V V V (Zi 65 V V V V V (Zi 66 V V V V V (Zi 67 V V V V V (Za 68 V V V (Zo V V V (Za 69 V V V (Zd V V (Zi 70 V V V V V (Zi 71 V V V V V (Zi 72 V V V V V (Zi 73 V V V V V (Zi 74 V V V V V (Zi 75 V V V V V ?_)))))))))))))
      refine Za 76 V V V (Zo V V V (Za 0 V V V (Ze V V (Vq (Ub V ?_ by5 by3)))))
      simp_all
     ·skip
      refine Zk 64 V V V V V (Zg V tf_30_3 V (Zk 65 V V V V V (Zl (i := 0) V ta_28 V V V ?_)))
      refine Zk 66 V V V V V (Yx V tu_28 V (.seq _ _) (fun n66 => ?_))
      refine Zk 67 V V V V V (Yw V V V ?_); intro c67 h67
      refine Za 68 V V V (Zo V V V (Za 69 V V V (Zd V V ?_)))
      rcases Zh h67 with ⟨rfl, g67⟩ | ⟨rfl, g67⟩
      ·skip
       refine Zi 70 V V V V V (Zi 71 V V V V V (Zi 72 V V V V V (Zi 73 V V V V V (Zi 74 V V V V V (Zi 75 V V V V V (Za 76 V V V (Zo V V V (Za 0 V V V (Ze V V (Vq (Ub V ?_ by5 by3)))))))))))
       simp_all
      ·skip
       refine Zk 70 V V V V V (Zg V tf_30_3 V (Zk 71 V V V V V (Zl (i := 0) V ta_28 V V V ?_)))
       refine Zk 72 V V V V V (Yd (i := 0) V te_28 V (.seq _ _) V V (by first | rfl | assumption) ?_)
       refine Zk 73 V V V V V (Zj V tf_30_0 V V (Zk 74 V V V V V (Zp V Xf V V (Zk 75 V V V V V (Yw V V V ?_))))); intro c75 h75
       refine Za 76 V V V (Zo V V V (Za 0 V V V (Ze V V (Vq (Ub V ?_ by5 by3)))))
       simp_all
 intro c0 h0
 exact Zb (Ya (Yg V V (Vx _) by3 ⟨⟨_, h0, V⟩, V⟩))
end Go.Proofs.YtknodnfbaofngaaGreat
namespace Go.Proofs.YtknodnfbaofngaaGreat
open Go.ChangeShapes Go.WideShapes Go.ChangeAt Go.RowKit
theorem EntailAll_c (s : ByteArray) (a : Ask) : ACall Tryz.prog 6 [.val (.string s), .agg a.cells] [] (fun v _ => v = .val (.bool true)) := by
 have HE := Env_c s
 have HS := askSmall_c a
 have hok := envR_ok (s := s)
 obtain ⟨⟨v, c17⟩, he⟩ : ∃ e, envR s = e := ⟨_, rfl⟩
 rw [he] at HE hok
 simp only [] at HE hok
 have hsz : a.small → a.p.t.size ≤ 1000000 := fun h => by have := (Ty.small_size (by decide) h.2.2.1).1; omega
 have HP := fun (h : c17 = true) (hs : a.small) (hd : ¬ a.deep > 6) => entAll_c v (hok h).1 a.gs (by have := hs.2.1; omega) a.p (hsz hs) a.deep a.most (by omega)
 have HR := fun (h : c17 = true) (hs : a.small) (hd : ¬ a.deep > 6) => rAll_c v (hok h).1 (hok h).2.1 a.gs (by have := hs.2.1; omega) a.deep.toNat a.p (hsz hs) a.deep a.most rfl (by omega)
 rw [allF_eq] at HR
 have HX := fun x : Pf => SameProof_c x.size x (Nat.le_refl _)
 clear hok hsz
 generalize allF v a.gs a.p a.deep a.most = l at *
 clear he
 generalize a.small = sm at *
 obtain ⟨da, cl, ins⟩ := v
 obtain ⟨gs, ⟨pc, ⟨pk, ps, pn, pl⟩⟩, ⟨xk, xn, xc, xl⟩, deep, most⟩ := a
 have hll := Pf.cellss_len l
 simp only [Ask.cells, En.cells, Pr.cells, Ty.cells, List.cons_append, List.nil_append] at *
 rw [Pf.cells] at HS ⊢
 refine Zu Tryz.func6 V (by kernel_rfl) V (Ud V) ?_
 refine Yf (Zf (Zc (Za 3 V V V (Xb (cs' := [_, _, _, _, _, _, _, _, _, _, _, _]) V V V V (Za 4 V V V (Ze V V (Vq (Zb (Zf (Zf (Zc (Za 10 V V V (Yk (xs := []) V V (awake_c.yes trivial) by1 ?_)))))))))))))
 refine Za 11 V V V (We V V ?_); intro c11 h11
 try replace h11 := nott h11 h10
 refine Vq (Zb ?_)
 rcases Zh h11 with ⟨rfl, g11⟩ | ⟨rfl, g11⟩
 ·refine Zn V (Zt (Zb (Zf (Zc (Za 13 V V V (Zd V V (Za 14 V V V (Yk (xs := [.tmp 13]) V V (HE) by1 ?_))))))))
  refine Za 12 V V V (Zd V V (Za 15 V V V (Xc V V V (Za 16 V V V (Xc V V V (Za 5 V V V (Zy (cs' := [_, _, _]) V tz_38 V V ?_))))))); intro b5
  refine Zq V V (Zm (cs' := [_, _, _]) (i := 0) V ts_38 V V V V V (Ud V) V (Za 6 V V V (Ze V V (Vq (Zb (Zf (Zf (Xj 33 (c17 = false ∨ ¬ sm ∨ deep > 6 ∨ most > 60) ?_ _ _ V ?_))))))))
  ·skip
   refine Za 17 V V V (Zd V V (Za 18 V V V (We V V ?_))); intro c18 h18
   try replace h18 := nott h18 h16
   refine Za 19 V V V (Zd V V ?_)
   rcases Zh h18 with ⟨rfl, g18⟩ | ⟨rfl, g18⟩
   ·skip
    refine Zk 20 V V V V V (Yc (cs' := [_, _, _, _, _, _, _, _, _, _, _, _]) V ta_32 V V V (Zk 21 V V V V V (Yh (xs := [.tmp 20]) V V (HS) by1 ?_))); intro c21 h21
    refine Zk 22 V V V V V (We V V ?_); intro c22 h22
    try replace h22 := nott h22 h21
    refine Za 23 V V V (Zo V V V (Za 24 V V V (Zd V V ?_)))
    rcases Zh h22 with ⟨rfl, g22⟩ | ⟨rfl, g22⟩
    ·skip
     refine Zk 25 V V V V V (Zj V tf_32_3 V V (Zk 26 V V V V V (Zp V Xf V V (Zk 27 V V V V V (Wv V V V ?_))))); intro c27 h27
     refine Za 28 V V V (Zo V V V (Za 29 V V V (Zd V V ?_)))
     rcases Zh h27 with ⟨rfl, g27⟩ | ⟨rfl, g27⟩
     ·skip
      refine Zk 30 V V V V V (Zj V tf_32_4 V V (Zk 31 V V V V V (Zp V Xf V V (Zk 32 V V V V V (Wv V V V ?_))))); intro c32 h32
      refine Za 33 V V V (Zo V V V (Vq (Ub V ?_ by5 by3)))
      clear HE HS HP HR HX; first | (simp_all; done) | grind
     ·skip
      refine Zi 30 V V V V V (Zi 31 V V V V V (Zi 32 V V V V V (Za 33 V V V (Zo V V V (Vq (Ub V ?_ by5 by3))))))
      clear HE HS HP HR HX; first | (simp_all; done) | grind
    ·skip
     refine Zi 25 V V V V V (Zi 26 V V V V V (Zi 27 V V V V V (Za 28 V V V (Zo V V V (Za 29 V V V (Zd V V (Zi 30 V V V V V (Zi 31 V V V V V (Zi 32 V V V V V (Za 33 V V V (Zo V V V (Vq (Ub V ?_ by5 by3)))))))))))))
     clear HE HS HP HR HX; first | (simp_all; done) | grind
   ·skip
    refine Zi 20 V V V V V (Zi 21 V V V V V (Zi 22 V V V V V (Za 23 V V V (Zo V V V (Za 24 V V V (Zd V V (Zi 25 V V V V V (Zi 26 V V V V V (Zi 27 V V V V V (Za 28 V V V (Zo V V V (Za 29 V V V (Zd V V (Zi 30 V V V V V (Zi 31 V V V V V ?_)))))))))))))))
    refine Zi 32 V V V V V (Za 33 V V V (Zo V V V (Vq (Ub V ?_ by5 by3))))
    clear HE HS HP HR HX; first | (simp_all; done) | grind
  intro c33 h33
  refine Zb ?_
  rcases Zh h33 with ⟨rfl, g33⟩ | ⟨rfl, g33⟩
  ·refine Zn V (Zt (Zb (Zf ?_)))
   obtain ⟨h17, hsm, hdp⟩ : c17 = true ∧ sm ∧ ¬ deep > 6 := by
    clear HE HS HP HR HX
    cases c17 <;> simp_all
   have HP1 := HP h17 hsm hdp
   have HR1 := HR h17 hsm hdp
   refine Zc (Za 34 V V V (Zx (cs' := [_, _, _]) (i := 0) V Wf V V V V (Za 35 V V V (Zj V tf_32_0 V V (Za 36 V V V (Zp V ta_22 V V (Za 37 V V V (Zj V tf_32_1 V V (Za 38 V V V (Yc (cs' := [_, _, _, _, _]) V ta_27 V V V (Za 39 V V V (Zj V tf_32_3 V V (Za 40 V V V (Zp V Xf V V (Za 41 V V V (Zj V tf_32_4 V V (Za 42 V V V (Zp V Xf V V (Za 43 V V V (Yk (xs := [.tmp 34, .tmp 36, .tmp 38, .tmp 40, .tmp 42]) V V (HP1) by1 ?_))))))))))))))))))))
   refine Za 7 V V V (Ze V V (Vq (Zb (Zf (Zc (Za 44 V V V (Zx (cs' := [_, _, _]) (i := 0) V Wf V V V V (Za 45 V V V (Zj V tf_32_0 V V (Za 46 V V V (Zp V ta_22 V V (Za 47 V V V (Zj V tf_32_1 V V (Za 48 V V V (Yc (cs' := [_, _, _, _, _]) V ta_27 V V V (Za 49 V V V (Zj V tf_32_3 V V (Za 50 V V V (Zp V Xf V V (Za 51 V V V (Zj V tf_32_4 V V (Za 52 V V V (Zp V Xf V V (Za 53 V V V (Yk (xs := [.tmp 44, .tmp 46, .tmp 48, .tmp 50, .tmp 52]) V V (HR1) by1 ?_)))))))))))))))))))))))))
   refine Za 8 V V V (Ze V V (Vq (Zb (Zf (Zf (Zc (Za 54 V V V (Zd V V ?_))))))))
   refine Za 55 V V V (Yx V tu_28 V (.seq _ _) (fun n55 => ?_))
   refine Za 56 V V V (Zd V V ?_)
   refine Za 57 V V V (Yx V tu_28 V (.seq _ _) (fun n57 => ?_))
   refine Za 58 V V V (Xw V V V ?_); intro c58 h58
   refine Vq (Zb ?_)
   rcases Zh h58 with ⟨rfl, g58⟩ | ⟨rfl, g58⟩
   ·refine Zn V (Zt (Zb (Zf (Zf (Zc (Za 59 V V V (Zd V V ?_)))))))
    refine Za 60 V V V (Yx V tu_28 V (.seq _ _) (fun n60 => ?_))
    refine Za 61 V V V (Zd V V (Vq (Zb (Zw ?_))))
    apply Xl [0, 1, 2, 3, 4, 5, 6, 9, 10, 11, 12, 13, 14, 15, 16, 17, 18, 19, 20, 21, 22, 23, 24, 25, 26, 27, 28, 29, 30, 31, 32, 33, 34, 35, 36, 37, 38, 39, 40, 41, 42, 43, 44, 45, 46, 47, 48, 49, 50, 51, 52, 53, 54, 55, 56, 57, 58, 59, 61, 62, 63, 64, 65, 66, 67, 68, 69, 70, 71, 72, 73, 74] (σ := Nat) (fun zz => match zz with | i => [(61, .val (.int .i64 i))]) (fun zz => match zz with | i => i ≤ l.length) (fun zz => match zz with | i => l.length - i) (0)
    ·repeat' (first | exact Ug | apply Ue rfl | apply Uf rfl)
    ·exact Nat.zero_le _
    ·exact by4
    rintro i hI
    try dsimp only [List.cons_append, List.nil_append] at hI ⊢
    have hi := hI
    refine Zf (Zc (Za 62 V V V (Yq V V V ?_))); intro c62 h62
    refine Vq (Zb (Zf ?_))
    rcases Zh h62 with ⟨rfl, g62⟩ | ⟨rfl, g62⟩
    ·exact Zn V (Yy (Xa (Xs (Yz (Zb (Zf (Zc (Za 4 V V V (Ze V V (Vq (Zb (Ya (Yg V V (Vx _) (Vs _) V)))))))))))))
    ·refine Zr V (Zt (Zb (Zf (Zw (Zf (Zc (Za 63 V V V (Zd V V (Za 9 V V V (Ze V V (Vq (Zb (Zf ?_)))))))))))))
     obtain ⟨⟨yk, yn, yc, yl⟩, hxy⟩ := Yu (l := l) (i := i) (by omega)
     have hcy := Pf.cellss_get hxy
     have HXy := HX ⟨yk, yn, yc, yl⟩
     simp only [Pf.cells] at hcy HXy
     refine Wo Wk V (Zs 64 V V (Zd V V ⟨V, V⟩) ?_)
     refine Zs 65 V V (Zd V V ⟨V, V⟩) ?_
     refine Zs 66 V V (Yd V te_28 V (.seq _ _) V V (hcy) ⟨V, V⟩) ?_
     refine Zs 67 V V (Yc (cs' := [_, _, _, _]) V Wu V V V ⟨V, V⟩) ?_
     refine Zs 68 V V (Zd V V ⟨V, V⟩) ?_
     refine Zs 69 V V (Zd V V ⟨V, V⟩) ?_
     refine Zs 70 V V (Yd V te_28 V (.seq _ _) V V (hcy) ⟨V, V⟩) ?_
     refine Zs 71 V V (Yc (cs' := [_, _, _, _]) V Wu V V V ⟨V, V⟩) ?_
     refine Wb 72 V V (fun _ q => Yh (xs := [.tmp 67, .tmp 71]) V V (HXy) by1 q) ?_; intro c72 h72
     refine Wb 73 V V (fun _ q => We V V q) ?_; intro c73 h73
     try replace h73 := nott h73 h72
     show AGo _ _ _ _ _ _ _
     refine Zb ?_
     rcases Zh h73 with ⟨rfl, g73⟩ | ⟨rfl, g73⟩
     ·refine Zn V (Zt (Yn (Zb (Zc (Za 74 V V V (Yt V V V (Uh _ (by omega)) ?_))))))
      refine Za 61 V V V (Zd V V (Vq (Yv ?_)))
      exact ⟨i + 1, (by show i + 1 ≤ l.length; omega), by show l.length - (i + 1) < l.length - i; omega, by4, by3⟩
     ·refine Zr V (Zf (Zc (Za 4 V V V (Ze V V (Vq (Zb (Ya ?_)))))))
      first | exact absurd trivial g73 | exact absurd trivial g72
   ·refine Zr V (Zf (Zc (Za 4 V V V (Ze V V (Vq (Zb (Ya ?_)))))))
    omega
  ·exact Zr V (Zf (Zc (Za 4 V V V (Ze V V (Vq (Zb (Ya (Yg V V (Vx _) (Vs _) V))))))))
 ·refine Zr V (Zf ?_)
  exact absurd g11 (by simp)
theorem entailAll_own : ownKnob Tryz.prog.godebug = none := by kernel_rfl
theorem entailAll_laidOut : laidOutB Tryz.prog = true := by kernel_rfl
theorem entailAll_lifted (os : Os) (started : os.Started) (H : Type) (enc : TypeId × Value → H) :
    ReturnsInHanded {} Tryz.checked os 6 .any (Rows.entailAllSpec.pre6 enc Tryz.prog Tryz.f6 Rows.entailAllRow.domain false) (Rows.entailAllSpec.post enc Tryz.prog Tryz.f6 false true false false) := by
 refine returnsInHanded_of_change_sized (C := Tryz.checked) entailAll_own started (by kernel_rfl) Tryz.func6
  (ChangeSpec.witness6 (enc := enc) (C := Tryz.checked) false ⟨#[], #[.string ⟨#[]⟩, .agg #[.slice none 0 0, .string ⟨#[]⟩, .int .i64 0, .string ⟨#[]⟩, .int .i64 0, .slice none 0 0, .int .i64 0, .int .i64 0, .string ⟨#[]⟩, .slice none 0 0, .int .i64 0, .int .i64 0]], []⟩ 8 (by kernel_rfl) (by kernel_rfl) (by kernel_rfl) (by kernel_rfl)) ?_
 intro W base args ds gs before hval0 hW hcnd hsz0 _
 have hval : ∀ (j : Nat) t v, Tryz.f6.params[j]? = some t → args[j]? = some v → Value.okWide Tryz.prog W .any base t v := hval0
 have hsz : (DataW.weightsEach Tryz.prog (Tryz.f6.params.toList ++ Rows.entailAllSpec.plain.varTypes Tryz.prog) (ds ++ gs)).all (· ≤ reachBytes) = true := hsz0
 have hW' := hW
 obtain ⟨p, q, hA0, hV, rfl, hfz, hnd⟩ := hW
 have hA : DataW.TrodAll enc Tryz.prog W 0 (fun _ => true) true Tryz.f6.params.toList args.toList ds p := hA0
 rw [Tryz.params6] at hA hval hsz
 obtain ⟨rfl, rfl⟩ := trodVars_none hV
 obtain ⟨v0, v1, d0, d1, p0, p1, rfl, rfl, rfl, h0, h1⟩ := trodAll_two hA
 obtain ⟨f0, c0, s0, r0, o0⟩ := open_one closed12 (by decide) h0
 obtain ⟨s, l0, rfl⟩ := shape_str Wq s0
 obtain ⟨f1, c1, s1, r1, o1⟩ := open_one closed12 (by decide) h1
 obtain ⟨a, rfl⟩ := shape_ask s1
 refine (law_run (EntailAll_c s a) (.cons (rel_cell (okw_str Tryz.underlying9 (hval 0 9 v0 rfl rfl)) r0) (.cons (rel_agg' (by rw [Ask.cells_len]; decide) r1 o1) .nil))).mono fun e W' ⟨he, hb⟩ => ?_
 subst he
 exact ⟨_, V, law_post (tb := 4) entailAll_laidOut (by kernel_rfl) (by kernel_rfl) Tryz.underlying4 V V V V hW' hb⟩
theorem entailAll_holds : Rows.EntailAllSaid :=
 OpenClaim.holds_of_wide 6 Tryz.f6 rfl rfl rfl rfl rfl rfl rfl ⟨rfl, rfl, rfl, rfl, rfl⟩ rfl rfl rfl rfl rfl (by kernel_rfl) Tryz.func6 (by kernel_rfl)
  (of_decide_eq_true (by kernel_rfl)) (by unfold Func.isWrapper; first | (rw [if_pos (by decide +kernel)]; kernel_rfl) | (rw [if_neg (by decide +kernel)]; exact ⟨rfl, rfl⟩))
  (fun os started H enc _ => entailAll_lifted os started H enc)
#print axioms entailAll_holds
end Go.Proofs.YtknodnfbaofngaaGreat
