/- CoreSames: any two core expressions are the same, and have the sizes, that the document says. -/
import Derived.Test.YteepjjgooplljaaGreatKLZSame3
import Derived.RowKit
import Derived.Laws.Bits64
import Derived.Laws.BitsAllLaws
import Derived.Laws.BytesArg
import Derived.WideShapes
import Derived.WalkKit
import Derived.Lib.Bytealg
import Derived.Test.YteepjjgooplljaaGreatProg
import Derived.WalkSpells
import Derived.WalkLawsBesides
import Derived.Lib.Hide
import Derived.Test.YteepjjgooplljaaGreatChecked
import Derived.Test.YteepjjgooplljaaGreatRows
set_option maxRecDepth 100000
set_option maxHeartbeats 4000000
namespace Go.Proofs.YteepjjgooplljaaGreat
open Go.RowKit
theorem all_drop {α : Type} {f : α → Bool} {l : List α} {i : Nat} {x : α} (h : l[i]? = some x) : (l.drop i).all f = (f x && (l.drop (i + 1)).all f) := by
 rw [drop_get h, List.all_cons]
theorem coCount_c (d : Nat) : ∀ (e : Co) (m : Int), e.size ≤ d → e.Lim → 1 ≤ m → m ≤ 2000 → PCall Tryz.prog 14 [.agg e.cells, .val (.int .i64 m)] (.val (.int .i64 (e.cnt m))) := by
 induction d with
 | zero => intro e m hd; cases e; rw [Co.size] at hd; omega
 | succ d ih =>
  rintro ⟨k, s, n, ⟨tk, ts, tn, tl⟩, us, ks, al, bs⟩ m hd hlim h1 h2
  obtain ⟨Z, hZ⟩ : ∃ Z, (Co.mk k s n ⟨tk, ts, tn, tl⟩ us ks al bs).cnt m = Z := ⟨_, rfl⟩
  rw [hZ]
  rw [Co.cnt] at hZ
  rw [Co.size] at hd
  rw [Co.Lim] at hlim
  obtain ⟨lu, lk, la, lb⟩ := hlim
  have HS := fun t : Ty => Small_c t 60 (by decide) (by decide)
  have HSt := HS ⟨tk, ts, tn, tl⟩
  have hlu := Ty.cellss_len us
  have hlk := Co.cellss_len ks
  have hla := Ca.cellss_len al
  have hlb := Cb.cellss_len bs
  refine Zo Tryz.func14 V (by kernel_rfl) V (Xk V) ?_
  refine Ya ?_
  refine c_lena (t := 0) (j := 8) V V (.seq _ _) (fun hmax => ?_)
  refine c_lena (t := 0) (j := 9) V V (.seq _ _) (fun hmax2 => ?_)
  refine c_lena (t := 0) (j := 10) V V (.seq _ _) (fun hmax3 => ?_)
  refine Zh (Zd (Za 2 V V V (Yl (cs' := [_, _, _, _, _, _, _, _, _, _, _]) V V V V (Za 4 V V V (Ze V V (Xg (Zb (Zh (Zd (Za 11 V V V (Zg V tf_29_4 V V (Za 12 V V V (Zk V Xc V V ?_)))))))))))))
  refine Za 13 V V V (Yi V tu_22 V (.seq _ _) (fun n13 => ?_))
  refine Za 14 V V V (Yp V V V (Xo _ (by omega)) ?_)
  refine Za 5 V V V (Ze V V (Xg (Zb (Zh (Zh (Zd (Za 15 V V V (Zg V tf_29_3 V V (Za 16 V V V (Zn (cs' := [_, _, _, _]) V Ye V V V (Za 17 V V V (Yh (xs := [.tmp 16, .const (.int .i64 60)]) V V (HSt) by1 ?_)))))))))))); intro c17 h17
  refine Za 18 V V V (Yn V V ?_); intro c18 h18
  try replace h18 := nott h18 h17
  refine Xg (Zb ?_)
  rcases Zj h18 with ⟨rfl, g18⟩ | ⟨rfl, g18⟩
  ·refine Zp V (Yb (Zb (Zh (Zh ?_))))
   rw [if_neg (by simpa using g18)] at hZ
   refine Zd (Za 20 V V V (Zg V tf_29_4 V V (Za 21 V V V (Zk V Xc V V ?_))))
   refine Za 22 V V V (Yi V tu_22 V (.seq _ _) (fun n22 => ?_))
   refine Za 23 V V V (Zf V V (Xg (Zb (Yc ?_))))
   apply c_loopk [0, 3, 4, 6, 7, 11, 12, 13, 14, 15, 16, 17, 18, 19, 20, 23, 24, 25, 26, 27, 28, 29, 30, 31] (σ := Nat) (fun zz => match zz with | i => [(23, .val (.int .i64 i))]) (fun zz => match zz with | i => []) (fun zz => match zz with | i => i ≤ us.length ∧ (us.all fun t => t.small 60) = (us.drop i).all fun t => t.small 60) (fun zz => match zz with | i => us.length - i) (0)
   ·repeat' (first | exact Xn | apply Xl rfl | apply Xm rfl)
   ·exact ⟨Nat.zero_le _, by rw [List.drop_zero]⟩
   ·exact by4
   ·exact (Xh _)
   rintro i hI
   try dsimp only [List.cons_append, List.nil_append] at hI ⊢
   obtain ⟨hi, hm⟩ := hI
   refine Zh (Zd (Za 24 V V V (Yr V V V ?_))); intro c24 h24
   refine Xg (Zb (Zh ?_))
   rcases Zj h24 with ⟨rfl, g24⟩ | ⟨rfl, g24⟩
   ·refine Zp V (Yu (Yw (x_lp (Yv (Zb (Zh (Zh ?_)))))))
    rw [List.drop_of_length_le (by omega), List.all_nil] at hm
    rw [if_neg (by rw [hm]; simp)] at hZ
    refine Zd (Za 8 V V V (Ze V V (Xg (Zb (Yc ?_)))))
    apply Xf [0, 3, 5, 6, 7, 8, 11, 12, 13, 14, 15, 16, 17, 18, 19, 20, 21, 22, 23, 24, 25, 26, 27, 28, 29, 30, 31, 32, 33, 34, 35, 36, 37, 38, 39, 40, 41, 42, 43, 44, 45, 46, 47, 48, 49, 50, 51, 52, 53, 54] (σ := Nat × Int) (fun zz => match zz with | (i, c) => [(5, .val (.int .i64 c)), (8, .val (.int .i64 i))]) (fun zz => match zz with | (i, c) => i ≤ ks.length ∧ 1 ≤ c ∧ c ≤ 562949953421312 * m ∧ Cb.cnts bs m (Ca.cnts al m (Co.cnts (ks.drop i) m c)) = Z) (fun zz => match zz with | (i, c) => ks.length - i) ((0, 1 + us.length))
    ·repeat' (first | exact Xn | apply Xl rfl | apply Xm rfl)
    ·exact ⟨Nat.zero_le _, by show (1 : Int) ≤ 1 + us.length; omega, by show (1 : Int) + us.length ≤ _; omega, hZ⟩
    ·exact SLe.cons V (Le.ieq (by omega)) by4
    rintro ⟨i, c⟩ hI
    try dsimp only [List.cons_append, List.nil_append] at hI ⊢
    obtain ⟨hi, hc1, hc2, hm⟩ := hI
    refine Zh (Zh (Xe 41 (i < ks.length ∧ c < m) ?_ _ _ V ?_))
    ·skip
     refine Za 32 V V V (Zf V V (Za 33 V V V (Zg V tf_29_5 V V (Za 34 V V V (Zk V ta_25 V V ?_)))))
     refine Za 35 V V V (Yi V tu_25 V (.seq _ _) (fun n35 => ?_))
     refine Za 36 V V V (Yr V V V ?_); intro c36 h36
     refine Za 37 V V V (Zf V V ?_)
     rcases Zj h36 with ⟨rfl, g36⟩ | ⟨rfl, g36⟩
     ·skip
      refine Zc 38 V V V V V (Zc 39 V V V V V (Zc 40 V V V V V (Za 41 V V V (Zl V V V (Xg (Xj V ?_ by5 by3))))))
      simp_all; omega
     skip
     refine Zi 38 V V V V V (Zf V V (Zi 39 V V V V V (Zf V V (Zi 40 V V V V V (Yr V V V ?_))))); intro c40 h40
     refine Za 41 V V V (Zl V V V (Xg (Xj V ?_ by5 by3)))
     simp_all; done
    intro c41 h41
    refine Zb ?_
    rcases Zj h41 with ⟨rfl, g41⟩ | ⟨rfl, g41⟩
    ·refine Zp V (Yu (Yw (x_lp (Yv (Zb (Zh (Zh ?_)))))))
     rw [Co.cnts_end (by omega)] at hm
     refine Zd (Za 9 V V V (Ze V V (Xg (Zb (Yc ?_)))))
     apply Xf [0, 3, 5, 6, 7, 8, 9, 11, 12, 13, 14, 15, 16, 17, 18, 19, 20, 21, 22, 23, 24, 25, 26, 27, 28, 29, 30, 31, 32, 33, 34, 35, 36, 37, 38, 39, 40, 41, 42, 43, 44, 45, 46, 47, 48, 49, 50, 51, 52, 53, 54, 55, 56, 57, 58, 59, 60, 61, 62, 63, 64, 65, 66, 67, 68, 69, 70, 71, 72, 73, 74, 75, 76, 77, 78, 79, 80, 81, 82, 83, 84, 85, 86, 87, 88] (σ := Nat × Int) (fun zz => match zz with | (i, c) => [(5, .val (.int .i64 c)), (9, .val (.int .i64 i))]) (fun zz => match zz with | (i, c) => i ≤ al.length ∧ 1 ≤ c ∧ c ≤ 562949953421312 * m ∧ Cb.cnts bs m (Ca.cnts (al.drop i) m c) = Z) (fun zz => match zz with | (i, c) => al.length - i) ((0, c))
     ·repeat' (first | exact Xn | apply Xl rfl | apply Xm rfl)
     ·exact ⟨Nat.zero_le _, hc1, hc2, hm⟩
     ·exact by4
     rintro ⟨i, c⟩ hI
     try dsimp only [List.cons_append, List.nil_append] at hI ⊢
     obtain ⟨hi, hc1, hc2, hm⟩ := hI
     refine Zh (Zh (Xe 64 (i < al.length ∧ c < m) ?_ _ _ V ?_))
     ·skip
      refine Za 55 V V V (Zf V V (Za 56 V V V (Zg V tf_29_6 V V (Za 57 V V V (Zk V ta_26 V V ?_)))))
      refine Za 58 V V V (Yi V tu_26 V (.seq _ _) (fun n58 => ?_))
      refine Za 59 V V V (Yr V V V ?_); intro c59 h59
      refine Za 60 V V V (Zf V V ?_)
      rcases Zj h59 with ⟨rfl, g59⟩ | ⟨rfl, g59⟩
      ·skip
       refine Zc 61 V V V V V (Zc 62 V V V V V (Zc 63 V V V V V (Za 64 V V V (Zl V V V (Xg (Xj V ?_ by5 by3))))))
       simp_all; omega
      skip
      refine Zi 61 V V V V V (Zf V V (Zi 62 V V V V V (Zf V V (Zi 63 V V V V V (Yr V V V ?_))))); intro c63 h63
      refine Za 64 V V V (Zl V V V (Xg (Xj V ?_ by5 by3)))
      simp_all; done
     intro c64 h64
     refine Zb ?_
     rcases Zj h64 with ⟨rfl, g64⟩ | ⟨rfl, g64⟩
     ·refine Zp V (Yu (Yw (x_lp (Yv (Zb (Zh (Zh ?_)))))))
      rw [Ca.cnts_end (by omega)] at hm
      refine Zd (Za 10 V V V (Ze V V (Xg (Zb (Yc ?_)))))
      apply Xf [0, 3, 4, 5, 6, 7, 8, 9, 10, 11, 12, 13, 14, 15, 16, 17, 18, 19, 20, 21, 22, 23, 24, 25, 26, 27, 28, 29, 30, 31, 32, 33, 34, 35, 36, 37, 38, 39, 40, 41, 42, 43, 44, 45, 46, 47, 48, 49, 50, 51, 52, 53, 54, 55, 56, 57, 58, 59, 60, 61, 62, 63, 64, 65, 66, 67, 68, 69, 70, 71, 72, 73, 74, 75, 76, 77, 78, 79, 80, 81, 82, 83, 84, 85, 86, 87, 88, 89, 90, 91, 92, 93, 94, 95, 96, 97, 98, 99, 100, 101, 102, 103, 104, 105, 106, 107, 108, 109, 110, 111, 112, 113, 114, 115, 116, 117, 118, 119, 120, 121, 122, 123, 124, 125, 126, 127, 128, 129, 130] (σ := Nat × Int) (fun zz => match zz with | (i, c) => [(5, .val (.int .i64 c)), (10, .val (.int .i64 i))]) (fun zz => match zz with | (i, c) => i ≤ bs.length ∧ 1 ≤ c ∧ c ≤ 562949953421312 * m ∧ Cb.cnts (bs.drop i) m c = Z) (fun zz => match zz with | (i, c) => bs.length - i) ((0, c))
      ·repeat' (first | exact Xn | apply Xl rfl | apply Xm rfl)
      ·exact ⟨Nat.zero_le _, hc1, hc2, hm⟩
      ·exact by4
      rintro ⟨i, c⟩ hI
      try dsimp only [List.cons_append, List.nil_append] at hI ⊢
      obtain ⟨hi, hc1, hc2, hm⟩ := hI
      refine Zh (Zh (Xe 98 (i < bs.length ∧ c < m) ?_ _ _ V ?_))
      ·skip
       refine Za 89 V V V (Zf V V (Za 90 V V V (Zg V tf_29_7 V V (Za 91 V V V (Zk V ta_27 V V ?_)))))
       refine Za 92 V V V (Yi V tu_27 V (.seq _ _) (fun n92 => ?_))
       refine Za 93 V V V (Yr V V V ?_); intro c93 h93
       refine Za 94 V V V (Zf V V ?_)
       rcases Zj h93 with ⟨rfl, g93⟩ | ⟨rfl, g93⟩
       ·skip
        refine Zc 95 V V V V V (Zc 96 V V V V V (Zc 97 V V V V V (Za 98 V V V (Zl V V V (Xg (Xj V ?_ by5 by3))))))
        simp_all; omega
       skip
       refine Zi 95 V V V V V (Zf V V (Zi 96 V V V V V (Zf V V (Zi 97 V V V V V (Yr V V V ?_))))); intro c97 h97
       refine Za 98 V V V (Zl V V V (Xg (Xj V ?_ by5 by3)))
       simp_all; done
      intro c98 h98
      refine Zb ?_
      rcases Zj h98 with ⟨rfl, g98⟩ | ⟨rfl, g98⟩
      ·refine Zp V (Yu (Yw (x_lp (Yv (Zb (Zh (Zd (Za 131 V V V (Zf V V (Za 4 V V V (Ze V V (Xg (Zb (Zx ?_))))))))))))))
       rw [Cb.cnts_end (by omega)] at hm
       subst hm
       exact Zv V V (Xi _) (Xh _) ⟨V, V⟩
      refine Zq V (Yb (Zb (Zh (Yc (Zh (Zh ?_))))))
      obtain ⟨⟨qb, qvs, ⟨qwk, qws, qwn, qwl⟩, ⟨qk, qs, qn, ⟨qtk, qts, qtn, qtl⟩, qus, qks, qal, qbs⟩⟩, hxq⟩ := Yj (l := bs) (i := i) by6
      have hcq := Cb.cellss_get hxq
      have hmq := Xp hxq
      rw [drop_at hxq, Cb.cnts, if_pos g98.2, Cb.cnt] at hm
      have hlq := (Cb.lims_iff _).1 lb _ hmq
      rw [Cb.Lim] at hlq
      obtain ⟨hlq, hqk⟩ := hlq
      have hqc := strs_len qvs
      have hsz := Cb.size_mem hmq
      rw [Cb.size] at hsz
      have IH := ih (Co.mk qk qs qn ⟨qtk, qts, qtn, qtl⟩ qus qks qal qbs) (m - c) (by omega) hlq (by omega) (by omega)
      obtain ⟨z1, z2, _⟩ := Co.cnt_b (Co.mk qk qs qn ⟨qtk, qts, qtn, qtl⟩ qus qks qal qbs) (m - c) hlq (by omega) (by omega)
      generalize (Co.mk qk qs qn ⟨qtk, qts, qtn, qtl⟩ qus qks qal qbs).cnt (m - c) = z at *
      have HSq := HS ⟨qwk, qws, qwn, qwl⟩
      have hm : (if Ty.small ⟨qwk, qws, qwn, qwl⟩ 60 = false then m else Cb.cnts (bs.drop (i + 1)) m (c + (1 + z + qvs.length))) = Z := hm
      refine Zd (Za 101 V V V (Zg V tf_29_7 V V (Za 102 V V V (Zk V ta_27 V V (Za 103 V V V (Zf V V (Za 104 V V V (Zz V te_27 V (.seq _ _) V V (hcq) (Za 105 V V V (Zg V tf_46_2 V V (Za 106 V V V (Zn (cs' := [_, _, _, _]) V Ye V V V (Za 107 V V V (Yh (xs := [.tmp 106, .const (.int .i64 60)]) V V (HSq) by1 ?_)))))))))))))); intro c107 h107
      refine Za 108 V V V (Yn V V ?_); intro c108 h108
      try replace h108 := nott h108 h107
      refine Xg (Zb ?_)
      rcases Zj h108 with ⟨rfl, g108⟩ | ⟨rfl, g108⟩
      ·refine Zp V (Yb (Zb ?_))
       rw [if_neg (by simpa using g108)] at hm
       refine c_drawn tmix V (Zm 110 V V (Zf V V ⟨V, V⟩) ?_)
       refine Zm 111 V V (Zg V tf_29_7 V V ⟨V, V⟩) ?_
       refine Zm 112 V V (Zk V ta_27 V V ⟨V, V⟩) ?_
       refine Zm 113 V V (Zf V V ⟨V, V⟩) ?_
       refine Zm 114 V V (Zz V te_27 V (.seq _ _) V V (hcq) ⟨V, V⟩) ?_
       refine Zm 115 V V (Zg V tf_46_3 V V ⟨V, V⟩) ?_
       refine Zm 116 V V (Zn (cs' := [_, _, _, _, _, _, _, _, _, _, _]) V Yz V V V ⟨V, V⟩) ?_
       refine Zm 117 V V (Zf V V ⟨V, V⟩) ?_
       refine Zm 118 V V (Zf V V ⟨V, V⟩) ?_
       refine Zm 119 V V (op_sub V V V (Xo _ (by omega)) ⟨V, V⟩) ?_
       refine Zm 120 V V (Yd (xs := [.tmp 116, .tmp 119]) V V (IH) by1 ⟨V, V⟩) ?_
       refine Zm 121 V V (Yp V V V (Xo _ (by omega)) ⟨V, V⟩) ?_
       refine Zm 122 V V (Zg V tf_29_7 V V ⟨V, V⟩) ?_
       refine Zm 123 V V (Zk V ta_27 V V ⟨V, V⟩) ?_
       refine Zm 124 V V (Zf V V ⟨V, V⟩) ?_
       refine Zm 125 V V (Zz V te_27 V (.seq _ _) V V (hcq) ⟨V, V⟩) ?_
       refine Zm 126 V V (Zg V tf_46_1 V V ⟨V, V⟩) ?_
       refine Zm 127 V V (Zk V ta_44 V V ⟨V, V⟩) ?_
       refine Zm 128 V V (Yi V tu_44 V (.seq _ _) (fun _ => ⟨V, V⟩)) ?_
       refine Zm 129 V V (Yp V V V (Xo _ (by omega)) ⟨V, V⟩) ?_
       refine Zm 130 V V (Yp V V V (Xo _ (by omega)) ⟨V, V⟩) ?_
       refine Zm 5 V V (Ze V V ⟨V, V⟩) ?_
       show AGo _ _ _ _ _ _ _
       refine Yq (Zb (Zd (Za 99 V V V (Zf V V (Za 100 V V V (Yp V V V (Xo _ (by omega)) ?_))))))
       refine Za 10 V V V (Ze V V (Xg (go_lp ?_)))
       exact ⟨(i + 1, c + (1 + z + qvs.length)), ⟨by show i + 1 ≤ bs.length; omega, by show 1 ≤ c + (1 + z + qvs.length); omega, by show c + (1 + z + qvs.length) ≤ 562949953421312 * m; omega, hm⟩, by show bs.length - (i + 1) < bs.length - i; omega, SLe.cons V (Le.ieq (by omega)) by4, by3⟩
      refine Zq V (Zh (Zd (Za 109 V V V (Zf V V (Za 4 V V V (Ze V V (Xg (Zb (Zx ?_)))))))))
      rw [if_pos (by simpa using g108)] at hm
      subst hm
      exact Zv V V (Xi _) (Xh _) ⟨V, V⟩
     refine Zq V (Yb (Zb (Zh (Yc ?_))))
     obtain ⟨⟨⟨qqk, qqs, qqn, qql, qqp⟩, ⟨qk, qs, qn, ⟨qtk, qts, qtn, qtl⟩, qus, qks, qal, qbs⟩⟩, hxq⟩ := Yj (l := al) (i := i) by6
     have hcq := Ca.cellss_get hxq
     have hmq := Xp hxq
     rw [drop_at hxq, Ca.cnts, if_pos g64.2, Ca.cnt] at hm
     have hlq := (Ca.lims_iff _).1 la _ hmq
     rw [Ca.Lim] at hlq
     obtain ⟨hlq, hqk⟩ := hlq
     have hqk : qql.length ≤ 140737488355328 := hqk
     have hqc := Pa.cellss_len qql
     have hsz := Ca.size_mem hmq
     rw [Ca.size] at hsz
     have IH := ih (Co.mk qk qs qn ⟨qtk, qts, qtn, qtl⟩ qus qks qal qbs) (m - c) (by omega) hlq (by omega) (by omega)
     obtain ⟨z1, z2, _⟩ := Co.cnt_b (Co.mk qk qs qn ⟨qtk, qts, qtn, qtl⟩ qus qks qal qbs) (m - c) hlq (by omega) (by omega)
     generalize (Co.mk qk qs qn ⟨qtk, qts, qtn, qtl⟩ qus qks qal qbs).cnt (m - c) = z at *
     have hm : Cb.cnts bs m (Ca.cnts (al.drop (i + 1)) m (c + (1 + z + qql.length))) = Z := hm
     refine c_drawn tmix V (Zm 67 V V (Zf V V ⟨V, V⟩) ?_)
     refine Zm 68 V V (Zg V tf_29_6 V V ⟨V, V⟩) ?_
     refine Zm 69 V V (Zk V ta_26 V V ⟨V, V⟩) ?_
     refine Zm 70 V V (Zf V V ⟨V, V⟩) ?_
     refine Zm 71 V V (Zz V te_26 V (.seq _ _) V V (hcq) ⟨V, V⟩) ?_
     refine Zm 72 V V (Zg V tf_69_1 V V ⟨V, V⟩) ?_
     refine Zm 73 V V (Zn (cs' := [_, _, _, _, _, _, _, _, _, _, _]) V Yz V V V ⟨V, V⟩) ?_
     refine Zm 74 V V (Zf V V ⟨V, V⟩) ?_
     refine Zm 75 V V (Zf V V ⟨V, V⟩) ?_
     refine Zm 76 V V (op_sub V V V (Xo _ (by omega)) ⟨V, V⟩) ?_
     refine Zm 77 V V (Yd (xs := [.tmp 73, .tmp 76]) V V (IH) by1 ⟨V, V⟩) ?_
     refine Zm 78 V V (Yp V V V (Xo _ (by omega)) ⟨V, V⟩) ?_
     refine Zm 79 V V (Zg V tf_29_6 V V ⟨V, V⟩) ?_
     refine Zm 80 V V (Zk V ta_26 V V ⟨V, V⟩) ?_
     refine Zm 81 V V (Zf V V ⟨V, V⟩) ?_
     refine Zm 82 V V (Zz V te_26 V (.seq _ _) V V (hcq) ⟨V, V⟩) ?_
     refine Zm 83 V V (Zg V tf_69_0 V V ⟨V, V⟩) ?_
     refine Zm 84 V V (Zg V tf_67_3 V V ⟨V, V⟩) ?_
     refine Zm 85 V V (Zk V ta_65 V V ⟨V, V⟩) ?_
     refine Zm 86 V V (Yi V tu_65 V (.seq _ _) (fun _ => ⟨V, V⟩)) ?_
     refine Zm 87 V V (Yp V V V (Xo _ (by omega)) ⟨V, V⟩) ?_
     refine Zm 88 V V (Yp V V V (Xo _ (by omega)) ⟨V, V⟩) ?_
     refine Zm 5 V V (Ze V V ⟨V, V⟩) ?_
     show AGo _ _ _ _ _ _ _
     refine Yq (Zb (Zd (Za 65 V V V (Zf V V (Za 66 V V V (Yp V V V (Xo _ (by omega)) ?_))))))
     refine Za 9 V V V (Ze V V (Xg (go_lp ?_)))
     exact ⟨(i + 1, c + (1 + z + qql.length)), ⟨by show i + 1 ≤ al.length; omega, by show 1 ≤ c + (1 + z + qql.length); omega, by show c + (1 + z + qql.length) ≤ 562949953421312 * m; omega, hm⟩, by show al.length - (i + 1) < al.length - i; omega, SLe.cons V (Le.ieq (by omega)) by4, by3⟩
    refine Zq V (Yb (Zb (Zh (Yc ?_))))
    obtain ⟨⟨qk, qs, qn, ⟨qtk, qts, qtn, qtl⟩, qus, qks, qal, qbs⟩, hxq⟩ := Yj (l := ks) (i := i) by6
    have hcq := Co.cellss_get hxq
    have hmq := Xp hxq
    rw [drop_at hxq, Co.cnts, if_pos g41.2] at hm
    have hlq := (Co.lims_iff _).1 lk _ hmq
    have hsz := Co.size_mem hmq
    have IH := ih (Co.mk qk qs qn ⟨qtk, qts, qtn, qtl⟩ qus qks qal qbs) (m - c) (by omega) hlq (by omega) (by omega)
    obtain ⟨z1, z2, _⟩ := Co.cnt_b (Co.mk qk qs qn ⟨qtk, qts, qtn, qtl⟩ qus qks qal qbs) (m - c) hlq (by omega) (by omega)
    generalize (Co.mk qk qs qn ⟨qtk, qts, qtn, qtl⟩ qus qks qal qbs).cnt (m - c) = z at *
    refine Zd (Za 44 V V V (Zf V V (Za 45 V V V (Zg V tf_29_5 V V (Za 46 V V V (Zk V ta_25 V V (Za 47 V V V (Zf V V (Za 48 V V V (Zz V te_25 V (.seq _ _) V V (hcq) (Za 49 V V V (Zn (cs' := [_, _, _, _, _, _, _, _, _, _, _]) V Yz V V V (Za 50 V V V (Zf V V (Za 51 V V V (Zf V V (Za 52 V V V (op_sub V V V (Xo _ (by omega)) ?_))))))))))))))))))
    refine Za 53 V V V (Yd (xs := [.tmp 49, .tmp 52]) V V (IH) by1 ?_)
    refine Za 54 V V V (Yp V V V (Xo _ (by omega)) ?_)
    refine Za 5 V V V (Ze V V (Xg (Yq (Zb (Zd (Za 42 V V V (Zf V V (Za 43 V V V (Yp V V V (Xo _ (by omega)) ?_)))))))))
    refine Za 8 V V V (Ze V V (Xg (go_lp ?_)))
    exact ⟨(i + 1, c + z), ⟨by show i + 1 ≤ ks.length; omega, by show 1 ≤ c + z; omega, by show c + z ≤ 562949953421312 * m; omega, hm⟩, by show ks.length - (i + 1) < ks.length - i; omega, by4, by3⟩
   refine Zq V (Yb (Zb (Zh (Yc (Zh ?_)))))
   obtain ⟨⟨qk, qs, qn, ql⟩, hxq⟩ := Yj (l := us) (i := i) by6
   have hcq := Ty.cellss_get hxq
   have hmq := Xp hxq
   rw [all_drop hxq] at hm
   have HSq := HS ⟨qk, qs, qn, ql⟩
   refine Zd (Za 25 V V V (Zz V te_22 V (.seq _ _) V V (hcq) (Za 26 V V V (Zn (cs' := [_, _, _, _]) V Ye V V V (Za 7 V V V (Zy (cs' := [_, _, _, _]) V Yy V V ?_)))))); intro b7
   refine Yf V V (Zw (cs' := [_, _, _, _]) (i := 0) V Yx V V V V V (Xk V) V (Xg (Zb (Zh (Zd (Za 27 V V V (Zt (cs' := [_, _, _, _]) (i := 0) V Ye V V V V (Za 28 V V V (Yh (xs := [.tmp 27, .const (.int .i64 60)]) V V (HSq) by1 ?_))))))))); intro c28 h28
   refine Za 29 V V V (Yn V V ?_); intro c29 h29
   try replace h29 := nott h29 h28
   refine Xg (Zb ?_)
   rcases Zj h29 with ⟨rfl, g29⟩ | ⟨rfl, g29⟩
   ·refine Zp V (Yb (Yq (Zb (Zd (Za 31 V V V (Yp V V V (Xo _ (by omega)) ?_))))))
    refine Za 23 V V V (Zf V V (Xg (go_lp ?_)))
    exact ⟨i + 1, ⟨by show i + 1 ≤ us.length; omega, by rw [hm, show Ty.small ⟨qk, qs, qn, ql⟩ 60 = true by simpa using g29, Bool.true_and]⟩, by show us.length - (i + 1) < us.length - i; omega, by4, by3⟩
   refine Zq V (Zh (Zd (Za 30 V V V (Zf V V (Za 4 V V V (Ze V V (Xg (Zb (Zx ?_)))))))))
   rw [if_pos (by rw [hm, show Ty.small ⟨qk, qs, qn, ql⟩ 60 = false by simpa using g29]; rfl)] at hZ
   subst hZ
   exact Zv V V (Xi _) (Xh _) ⟨V, V⟩
  refine Zq V (Zh (Zd (Za 19 V V V (Zf V V (Za 4 V V V (Ze V V (Xg (Zb (Zx ?_)))))))))
  rw [if_pos (by simpa using g18)] at hZ
  subst hZ
  exact Zv V V (Xi _) (Xh _) ⟨V, V⟩
def Co.small (e : Co) (most : Int) : Prop := e.cnt (most + 1) ≤ most
theorem coSmall_c (e : Co) (hl : e.Lim) (most : Int) (h1 : 0 ≤ most) (h2 : most ≤ 1900) : BCall Tryz.prog 8 [.agg e.cells, .val (.int .i64 most)] (e.small most) := by
 unfold Co.small
 have H := coCount_c e.size e (most + 1) (Nat.le_refl _) hl (by omega) (by omega)
 generalize e.cnt (most + 1) = c at *
 obtain ⟨k, s, n, ⟨tk, ts, tn, tl⟩, us, ks, al, bs⟩ := e
 refine Zo Tryz.func8 V (by kernel_rfl) V (Xk V) ?_
 refine Ya (Zh (Zd (Za 2 V V V (Yl (cs' := [_, _, _, _, _, _, _, _, _, _, _]) V V V V (Za 4 V V V (Ze V V (Xg (Zb (Zh (Zd (Za 5 V V V (Zn (cs' := [_, _, _, _, _, _, _, _, _, _, _]) V Yz V V V (Za 6 V V V (Zf V V (Za 7 V V V (Yp V V V (Xo _ (by omega)) ?_))))))))))))))))
 refine Za 8 V V V (Yd (xs := [.tmp 5, .tmp 7]) V V (H) by1 ?_)
 refine Za 9 V V V (Zf V V (Za 10 V V V (op_leq V V V ?_))); intro c10 h10
 exact Za 4 V V V (Ze V V (Xg (Zb (Zx (Zv V V (Xi _) (Xh _) ⟨⟨_, h10, V⟩, V⟩)))))
theorem Co.size_full : ∀ e : Co, e.size ≤ e.full := by
 have key : ∀ (d : Nat) (e : Co), e.size ≤ d → e.size ≤ e.full := by
  intro d
  induction d with
  | zero => intro e h; cases e; rw [Co.size] at h; omega
  | succ d ih =>
   rintro ⟨k, s, n, t, us, ks, al, bs⟩ h
   rw [Co.size] at h
   have a1 : ∀ l : List Co, Co.sizes l ≤ d → Co.sizes l ≤ Co.fulls l := by
    intro l
    induction l with
    | nil => intro _; rw [Co.sizes]; omega
    | cons x l il => intro hh; rw [Co.sizes] at hh ⊢; rw [Co.fulls]; have := ih x (by omega); have := il (by omega); omega
   have a2 : ∀ l : List Ca, Ca.sizes l ≤ d → Ca.sizes l ≤ Ca.fulls l := by
    intro l
    induction l with
    | nil => intro _; rw [Ca.sizes]; omega
    | cons x l il => intro hh; cases x with | mk q e => rw [Ca.sizes, Ca.size] at hh ⊢; rw [Ca.fulls, Ca.full]; have := ih e (by omega); have := il (by omega); omega
   have a3 : ∀ l : List Cb, Cb.sizes l ≤ d → Cb.sizes l ≤ Cb.fulls l := by
    intro l
    induction l with
    | nil => intro _; rw [Cb.sizes]; omega
    | cons x l il => intro hh; cases x with | mk q v t e => rw [Cb.sizes, Cb.size] at hh ⊢; rw [Cb.fulls, Cb.full]; have := ih e (by omega); have := il (by omega); omega
   rw [Co.size, Co.full]
   have := a1 ks (by omega)
   have := a2 al (by omega)
   have := a3 bs (by omega)
   omega
 exact fun e => key e.size e (Nat.le_refl _)
theorem Co.small_size {e : Co} {most : Int} (hl : e.Lim) (h1 : 0 ≤ most) (h2 : most ≤ 1900) (h : e.small most) : (e.size : Int) ≤ most ∧ e.Ok := by
 unfold Co.small at h
 obtain ⟨_, _, h3⟩ := Co.cnt_b e (most + 1) hl (by omega) (by omega)
 obtain ⟨h4, h5⟩ := h3 (by omega)
 have := e.size_full
 exact ⟨by omega, h5⟩
end Go.Proofs.YteepjjgooplljaaGreat
namespace Go.Proofs.YteepjjgooplljaaGreat
open Go.RowKit
end Go.Proofs.YteepjjgooplljaaGreat
namespace Go.Proofs.YteepjjgooplljaaGreat
def byteAt (ls : List Nat) (i : Nat) : Nat := ls.getD (i / 8) 0 / 256 ^ (i % 8) % 256
def bytesOf (ls : List Nat) (n : Nat) : List Nat := (List.range n).map (byteAt ls)
/- what bytes are -/
def smallC (c : Nat) : Bool := (97 ≤ c && c ≤ 122) || c == 95
def greatC (c : Nat) : Bool := 65 ≤ c && c ≤ 90
def digitC (c : Nat) : Bool := 48 ≤ c && c ≤ 57
def nameC (c : Nat) : Bool := smallC c || greatC c || digitC c || c == 39
def signL : List Nat := [33, 36, 37, 38, 42, 43, 46, 47, 60, 61, 62, 63, 64, 94, 124, 126, 58, 45]
def signC (c : Nat) : Bool := signL.contains c
def kindC (k c : Nat) : Bool := if k = 1 then nameC c else if k = 2 then digitC c else signC c
def run (k : Nat) : List Nat → Nat
 | [] => 0
 | c :: l => if kindC k c = true then run k l + 1 else 0
/- characters -/
/- texts -/
/- tokens -/
structure Tok where
 k : Int
 t : ByteArray
 n : Int
 a : Int
deriving DecidableEq
def Tok.cells (t : Tok) : List Value := [.int .i64 t.k, .string t.t, .int .i64 t.n, .int .i64 t.a]
def tok0 (a : Int) : Tok := ⟨0, ⟨#[]⟩, 0, a⟩
def sameB (a b : ByteArray) : Bool := decide (a = b)
theorem sameB_iff {a b : ByteArray} : sameB a b = true ↔ a = b := by unfold sameB; simp
def hasB (l : List ByteArray) (s : ByteArray) : Bool := l.any (sameB s)
theorem hasB_iff {l : List ByteArray} {s : ByteArray} : hasB l s = true ↔ s ∈ l := by
 unfold hasB
 rw [List.any_eq_true]
 constructor
 ·rintro ⟨x, hx, h⟩; rw [sameB_iff.1 h]; exact hx
 intro h; exact ⟨s, h, sameB_iff.2 rfl⟩
def findI {α : Type} (p : α → Bool) : List α → Nat → Int
 | [], _ => -1
 | x :: l, i => if p x = true then i else findI p l (i + 1)
theorem findI_lt {α : Type} (p : α → Bool) : ∀ (l : List α) (i : Nat), findI p l i < i + l.length
 | [], i => by simp [findI]; omega
 | x :: l, i => by
  rw [findI]
  split
  ·simp; omega
  have := findI_lt p l (i + 1); simp at this ⊢; omega
theorem findI_cases {α : Type} (p : α → Bool) : ∀ (l : List α) (i : Nat), findI p l i = -1 ∨ (i : Int) ≤ findI p l i
 | [], i => .inl rfl
 | x :: l, i => by
  rw [findI]
  split
  ·exact .inr (Int.le_refl _)
  rcases findI_cases p l (i + 1) with h | h
  ·exact .inl h
  right; omega
structure PS where
 at_ : Nat
 lv : Int
 e : Int
 wh : Int
deriving DecidableEq
def nxt (L : List Tok) (p : PS) : Tok := if p.e ≠ 0 then tok0 0 else (L[p.at_]?).getD (tok0 0)
def isP (L : List Tok) (p : PS) (s : ByteArray) : Bool := decide (6 ≤ (nxt L p).k ∧ (nxt L p).t = s)
end Go.Proofs.YteepjjgooplljaaGreat
namespace Go.Proofs.YteepjjgooplljaaGreat
abbrev kE : ByteArray := ⟨#[]⟩
abbrev kLP : ByteArray := ⟨#[40]⟩
abbrev kUn : ByteArray := ⟨#[95]⟩
abbrev kArrow : ByteArray := ⟨#[45, 62]⟩
abbrev kCase : ByteArray := ⟨#[99, 97, 115, 101]⟩
section
variable (L : List Tok)
def startsP (what : Int) (p : PS) : Prop :=
 (nxt L p).k = 1 ∨ (nxt L p).k = 2 ∨ isP L p kLP = true ∨ (1 ≤ what ∧ (nxt L p).k = 3) ∨ (what = 1 ∧ isP L p kUn = true) ∨ (what = 2 ∧ ((nxt L p).k = 4 ∨ isP L p kCase = true))
instance (what : Int) (p : PS) : Decidable (startsP L what p) := by unfold startsP; infer_instance
end
/- operators -/
section
variable (L : List Tok)
/- declarations -/
end
abbrev kIntT : ByteArray := ⟨#[73, 110, 116]⟩
abbrev kStrT : ByteArray := ⟨#[83, 116, 114, 105, 110, 103]⟩
abbrev kRefT : ByteArray := ⟨#[82, 101, 102]⟩
def arityD (s : ByteArray) : List Da → Int
 | [] => -1
 | d :: l => if sameB d.s s = true then d.ps.length else arityD s l
def arityR (v : En) (s : ByteArray) : Int :=
 if sameB s kIntT = true ∨ sameB s kStrT = true then 0 else if sameB s kRefT = true then 1 else if sameB s kArrow = true then 2 else arityD s v.da
def classI (v : En) (s : ByteArray) : Int := findI (fun c => sameB c.s s) v.cl 0
/- what is above a class -/
/- data -/
abbrev Flt := Int × Int
def f0 : Flt := (0, 0)
/- binds -/
/- classes -/
/- instances -/
abbrev kBr : ByteArray := ⟨#[123]⟩
def isBr (s : ByteArray) : Bool := sameB (s.extract 0 1) kBr
def tailB (s : ByteArray) : ByteArray := s.extract 1 s.size
theorem isBr_size {s : ByteArray} (h : isBr s = true) : 1 ≤ s.size := by
 unfold isBr at h
 have := congrArg ByteArray.size (sameB_iff.1 h)
 rw [ByteArray.size_extract] at this
 have h1 : kBr.size = 1 := rfl
 omega
def arC (v : En) (s : ByteArray) : Int := if 0 ≤ arityR v s then arityR v s else if isBr s = true ∧ 0 ≤ classI v (tailB s) then 1 else -1
mutual
def rightC (v : En) (vs : List ByteArray) : Ty → Bool
 | .mk k s _ ks => (if k = 1 then hasB vs s else if k = 3 then decide (arC v s = ks.length) else false) && rightCs v vs ks
def rightCs (v : En) (vs : List ByteArray) : List Ty → Bool
 | [] => true
 | t :: ts => rightC v vs t && rightCs v vs ts
end
theorem rightCs_all (v : En) (vs : List ByteArray) : ∀ l : List Ty, rightCs v vs l = l.all (rightC v vs)
 | [] => rfl
 | t :: ts => by rw [rightCs, List.all_cons, rightCs_all v vs ts]
def findL (s : ByteArray) : List Cb → Option Cb
 | [] => none
 | b :: l => match findL s l with
  | some c => some c
  | none => if sameB b.s s = true then some b else none
theorem findL_snoc (s : ByteArray) (b : Cb) : ∀ l : List Cb, findL s (l ++ [b]) = if sameB b.s s = true then some b else findL s l
 | [] => by simp [findL]
 | c :: l => by
  rw [List.cons_append, findL, findL_snoc s b l]
  by_cases h : sameB b.s s = true
  ·rw [if_pos h, if_pos h]
  rw [if_neg h, if_neg h, findL]
open Go.RowKit
section
variable {P : Program} {o : Oper} {al : Sl} {M : Mem} {K : AV → Mem → Prop}
theorem op_substrh {x hi : Operand} {t : TypeId} {s : ByteArray} {k' : IntKind} {b : Int} {j : Nat} (ho : o.op = .slice t x none (some hi) none) (ht : P.underlying t = some .string) (hx : al.ev x = some (.val (.string s))) (hhi : al.ev hi = some (.val (.int k' b))) (hb : b = j) (hj : j ≤ s.size) (q : K (.val (.string (s.extract 0 j))) M) : OpT P o al M K :=
 OpT.plain fun n B F Mf ac w hi' hs => by
  refine ⟨_, _, ?_, q, .val _⟩
  subst hb
  have h1 : (0 : Int) ≤ (j : Int) ∧ (j : Int) ≤ (s.size : Int) := ⟨by omega, by omega⟩
  simp [execOp, ho, Yt hs hx, Yt hs hhi, Instr.sliceAt, underlying, ht, Instr.slice, Instr.sliceBounds, Instr.sliceBound, asIntOf, hj]
theorem op_substrl {x lo : Operand} {t : TypeId} {s : ByteArray} {k : IntKind} {a : Int} {i : Nat} (ho : o.op = .slice t x (some lo) none none) (ht : P.underlying t = some .string) (hx : al.ev x = some (.val (.string s))) (hlo : al.ev lo = some (.val (.int k a))) (ha : a = i) (hi : i ≤ s.size) (q : K (.val (.string (s.extract i s.size))) M) : OpT P o al M K :=
 OpT.plain fun n B F Mf ac w hi' hs => by
  refine ⟨_, _, ?_, q, .val _⟩
  subst ha
  have h2 : (0 : Int) ≤ (i : Int) ∧ (i : Int) ≤ (s.size : Int) := ⟨by omega, by omega⟩
  simp [execOp, ho, Yt hs hx, Yt hs hlo, Instr.sliceAt, underlying, ht, Instr.slice, Instr.sliceBounds, Instr.sliceBound, asIntOf, hi]
end
theorem IndexS_c (xs : List ByteArray) (x : ByteArray) : PCall Tryz.prog 119 [.seq 1 (strs xs), .val (.string x)] (.val (.int .i64 (firstAt x xs 0))) := by
 have hlx := strs_len xs
 refine Zo Tryz.func119 V (by kernel_rfl) V (Xk V) ?_
 refine Ya ?_
 refine c_lens (t := 0) V (.seq _ _) (fun hmax => ?_)
 refine Zh (Zd (Za 4 V V V (Ze V V (Xg (Zb (Zh (Zh (Zd (Za 6 V V V (Zf V V ?_))))))))))
 refine Za 7 V V V (Yi V tu_44 V (.seq _ _) (fun n7 => ?_))
 refine Za 8 V V V (Zf V V (Xg (Zb (Yc ?_))))
 refine c_loop (σ := Nat) (fun zz => match zz with | i => [(0, .seq 1 (strs xs)), (1, .val (.string x)), (7, .val (.int .i64 (strs xs).length)), (8, .val (.int .i64 i))]) (fun zz => match zz with | i => []) (fun zz => match zz with | i => i ≤ xs.length ∧ x ∉ xs.take i) (fun zz => match zz with | i => xs.length - i) (0) ?_ ?_ ?_ ?_
 ·exact ⟨by omega, by simp⟩
 ·exact by4
 ·exact by3
 rintro i hI
 try dsimp only [List.cons_append, List.nil_append] at hI ⊢
 obtain ⟨hi, hu⟩ := hI
 refine Zh (Zd (Za 9 V V V (Yr V V V ?_))); intro c9 h9
 refine Xg (Zb (Zh ?_))
 rcases Zj h9 with ⟨rfl, g9⟩ | ⟨rfl, g9⟩
 ·refine Zp V (Yu (Yw (x_lp (Yv (Zb (Zh (Zd (Za 4 V V V (Ze V V (Xg (Zb (Zx (Zv V V (Xi _) by3 ⟨?_, V⟩)))))))))))))
  rw [← firstAt_drop x xs i hu, List.drop_eq_nil_of_le (by omega), firstAt]
 refine Zq V (Yb (Zb (Zh (Yc (Zh (Zd (Za 10 V V V (Zf V V (Za 5 V V V (Ze V V (Xg (Zb (Zh ?_)))))))))))))
 obtain ⟨y, hy⟩ := Yj (l := xs) (i := i) (by omega)
 have hcy := strs_get hy
 refine Zd (Za 11 V V V (Zf V V (Za 12 V V V (Zf V V (Za 13 V V V (Zf V V (Za 14 V V V (Zz V te_44 V (.seq _ _) V V (by assumption) ?_))))))))
 refine Za 15 V V V (Zk V ta_9 V V (Za 16 V V V (op_seql V V V ?_))); intro c16 h16
 refine Xg (Zb ?_)
 rcases Zj h16 with ⟨rfl, g16⟩ | ⟨rfl, g16⟩
 ·refine Zp V (Yb (Yq (Zb (Zd (Za 18 V V V (Yp V V V (Xo _ (by omega)) ?_))))))
  refine Za 8 V V V (Zf V V (Xg (go_lp ?_)))
  exact ⟨i + 1, ⟨by omega, not_mem_take hu hy (fun e => g16 e.symm)⟩, by simp; omega, by4, by3⟩
 refine Zq V (Zh (Zd (Za 17 V V V (Zf V V (Za 4 V V V (Ze V V (Xg (Zb (Zx (Zv V V (Xi _) by3 ⟨?_, V⟩))))))))))
 rw [← firstAt_drop x xs i hu, drop_at hy, firstAt, if_pos g16]
theorem ContainsS_c (xs : List ByteArray) (x : ByteArray) : BCall Tryz.prog 72 [.seq 1 (strs xs), .val (.string x)] (x ∈ xs) := by
 refine Zo Tryz.func72 V (by kernel_rfl) V (Xk V) ?_
 refine Ya (Zh (Zd (Za 4 V V V (Ze V V (Xg (Zb (Zh (Zd (Za 5 V V V (Zf V V (Za 6 V V V (Zf V V (Za 7 V V V (Yd (xs := [.tmp 5, .tmp 6]) V V (IndexS_c xs x) by1 ?_))))))))))))))
 refine Za 8 V V V (op_geq V V V ?_); intro c8 h8
 exact Za 4 V V V (Ze V V (Xg (Zb (Zx (Zv V V (Xi _) by3 ⟨⟨_, h8.trans (firstAt_nonneg x xs 0), V⟩, V⟩)))))
theorem fun_c (t : Ty) : BCall Tryz.prog 146 [.agg t.cells] t.isFun := by
 obtain ⟨k, s, n, ks⟩ := t
 have hl := Ty.cellss_len ks
 refine Zo Tryz.func146 V (by kernel_rfl) V (Xk V) ?_
 refine Ya (Zh (Zd (Za 1 V V V (op_boxe (cs' := [_, _, _, _]) V V V V ?_)))); intro b1
 refine Za 2 V V V (Ze V V (Xg (Zb (Zh (Xe 2 (k = 3 ∧ s = arrow ∧ ks.length = 2) ?_ _ _ V ?_)))))
 ·skip
  refine Za 3 V V V (Zs V tf_24_0 V (Za 4 V V V (Yg (i := 0) V ta_3 V V V (Za 5 V V V (op_eql V V V ?_))))); intro c5 h5
  refine Za 6 V V V (Zf V V ?_)
  rcases Zj h5 with ⟨rfl, g5⟩ | ⟨rfl, g5⟩
  ·skip
   refine Zc 7 V V V V V (Zc 8 V V V V V (Zc 9 V V V V V (Za 10 V V V (Zl V V V (Za 11 V V V (Zf V V (Zc 12 V V V V V (Zc 13 V V V V V (Zc 14 V V V V V (Zc 15 V V V V V (Za 16 V V V (Zl V V V (Za 2 V V V (Ze V V (Xg ?_)))))))))))))))
   refine Xj V ?_ by5 by3
   first | (simp_all; omega) | simp_all
  skip
  refine Zi 7 V V V V V (Zs V tf_24_1 V (Zi 8 V V V V V (Yg (i := 0) V ta_9 V V V (Zi 9 V V V V V (op_seql V V V ?_))))); intro c9 h9
  refine Za 10 V V V (Zl V V V (Za 11 V V V (Zf V V ?_)))
  rcases Zj h9 with ⟨rfl, g9⟩ | ⟨rfl, g9⟩
  ·skip
   refine Zc 12 V V V V V (Zc 13 V V V V V (Zc 14 V V V V V (Zc 15 V V V V V (Za 16 V V V (Zl V V V (Za 2 V V V (Ze V V (Xg (Xj V ?_ by5 by3)))))))))
   first | (simp_all; omega) | simp_all
  skip
  refine Zi 12 V V V V V (Zs V Xa V (Zi 13 V V V V V (Yg (i := 0) V Xc V V V ?_)))
  refine Zi 14 V V V V V (Yi V tu_22 V (.seq _ _) (fun n14 => ?_))
  refine Zi 15 V V V V V (op_eql V V V ?_); intro c15 h15
  refine Za 16 V V V (Zl V V V (Za 2 V V V (Ze V V (Xg (Xj V ?_ by5 by3)))))
  first | (simp_all; omega) | simp_all
 intro c2 h2
 exact Zb (Zx (Zv V V (Xi _) by3 ⟨⟨_, h2, V⟩, V⟩))
theorem CloneT_c (ks : List Ty) (hb : ks.length ≤ 100000000) : PCall Tryz.prog 143 [.seq 4 (Ty.cellss ks)] (.seq 4 (Ty.cellss ks)) := by
 have hl := Ty.cellss_len ks
 refine Zo Tryz.func143 V (by kernel_rfl) V (Xk V) ?_
 refine Ya (Zh (Zd (Za 2 V V V (Ze V V (Xg (Zb (Zh (Zh (Zd (Za 3 V V V (Zf V V (Za 4 V V V (op_isnil V tu_22 V (.seq _ _) ?_)))))))))))))
 intro c4 h4
 refine Xg (Zb ?_)
 rcases c4 with _ | _
 ·refine Zp V (Yb (Zb (Zh (Zd (Za 5 V V V (op_buildSlice_own (xs := []) el_22 V V V V V V (Xk V) ?_)))))); intro u5
  refine Za 6 V V V (Zf V V ?_)
  refine Za 7 V V V (op_append (i := 0) el_22 V V V V (.seq _ _) (by first | (simp; done) | (simp; omega) | omega) ?_)
  intro u7
  exact Za 2 V V V (Ze V V (Xg (Zb (Zx (Zv V V (Le.own _ _ _) by3 ⟨V, V⟩)))))
 refine Zq V (Zh (Zd (Za 2 V V V (Ze V V (Xg (Zb (Zx ?_)))))))
 exact Zv V V (by rw [h4 rfl]; exact Le.nil 4) by3 ⟨V, V⟩
theorem Con_c (s : ByteArray) (ks : List Ty) (hb : ks.length ≤ 100000000) : PCall Tryz.prog 83 [.val (.string s), .seq 4 (Ty.cellss ks)] (.agg (Ty.mk 3 s 0 ks).cells) := by
 refine Zo Tryz.func83 V (by kernel_rfl) V (Xk V) ?_
 refine Ya (Zh (Zd (Za 4 V V V (Zy (cs' := [_, _, _, _]) V Yy V V ?_)))); intro b4
 refine Xg (Zb (Zh (Zd (Za 5 V V V (Zf V V (Za 6 V V V (Zf V V (Za 7 V V V (Yd (xs := [.tmp 6]) V V (CloneT_c ks hb) by1 ?_)))))))))
 refine Za 8 V V V (Yo (ns := [0, 1, 3]) (xs := [.const (.int .i64 3), .tmp 5, .tmp 7]) V Yy V tfl_24 V V V V (Yf V V (Zw (cs' := [_, _, _, _]) (i := 0) V Yx V V V V V (Xk V) V (Xg (Zb (Zx ?_))))))
 exact out_cell (i := 0) V V V Ye V by2 by3 ⟨V, V⟩
theorem Fun_c (a b : Ty) : PCall Tryz.prog 88 [.agg a.cells, .agg b.cells] (.agg (Ty.mk 3 arrow 0 [a, b]).cells) := by
 obtain ⟨k1, s1, n1, ks1⟩ := a
 obtain ⟨k2, s2, n2, ks2⟩ := b
 refine Zo Tryz.func88 V (by kernel_rfl) V (Xk V) ?_
 refine Ya (Zh (Zd (Za 2 V V V (op_boxe (cs' := [_, _, _, _]) V V V V ?_)))); intro b2
 refine Za 3 V V V (op_boxe (cs' := [_, _, _, _]) V V V V ?_); intro b3
 refine Za 4 V V V (Zy (cs' := [_, _, _, _]) V Yy V V ?_); intro b4
 refine Xg (Zb (Zh (Zd (Za 5 V V V (Zt (cs' := [_, _, _, _]) (i := 2) V Ye V V V V (Za 6 V V V (Zt (cs' := [_, _, _, _]) (i := 1) V Ye V V V V (Za 7 V V V (op_buildSlice (xs := [.tmp 5, .tmp 6]) el_22 V V V V V V (Xk V) (Za 8 V V V (Yd (xs := [.const (.string ⟨#[45, 62]⟩), .tmp 7]) V V (Con_c arrow [.mk k1 s1 n1 ks1, .mk k2 s2 n2 ks2] (by simp)) by1 ?_)))))))))))
 refine Yf V V (Zw (cs' := [_, _, _, _]) (i := 0) V Yx V V V V V (Xk V) V (Xg (Zb (Zx ?_))))
 exact out_cell (i := 0) V V V Ye V by2 by3 ⟨V, V⟩
theorem findI_any {α : Type} {p : α → Bool} {l : List α} : 0 ≤ findI p l 0 ↔ l.any p = true := by
 have key : ∀ (l : List α) (i : Nat), 0 ≤ findI p l i ↔ l.any p = true := by
  intro l
  induction l with
  | nil => intro i; simp [findI]
  | cons x l ih =>
   intro i
   rw [findI, List.any_cons]
   cases h : p x with
   | true => simp
   | false => simp [ih]
 exact key l 0
theorem any_not {α : Type} {p : α → Bool} {l : List α} : ¬ l.any (fun x => !p x) = true ↔ l.all p = true := by
 induction l with
 | nil => simp
 | cons x l ih =>
  rw [List.any_cons, List.all_cons]
  cases h : p x with
  | true => simp
  | false => simp
theorem IxF_Ty (p : Ty → Bool) (g : FuncId) (fs cs : List AV) (l : List Ty) (hg : ∀ x ∈ l, BCall Tryz.prog g (fs ++ [.agg x.cells] ++ cs) (p x = true)) : PCall Tryz.prog 179 [.seq 4 (Ty.cellss l), .clo (.func g) fs cs] (.val (.int .i64 (findI p l 0))) := by
 have hl := Ty.cellss_len l
 obtain ⟨r, hr⟩ : ∃ r, findI p l 0 = r := ⟨_, rfl⟩
 rw [hr]
 refine Zo Tryz.func179 V (by kernel_rfl) V (Xk V) ?_
 refine Ya ?_
 refine c_lens (t := 0) V (.seq _ _) (fun hmax => ?_)
 refine Zh (Zd (Za 4 V V V (Ze V V (Xg (Zb (Zh (Zh (Zd (Za 6 V V V (Zf V V ?_))))))))))
 refine Za 7 V V V (Yi V tu_22 V (.seq _ _) (fun n7 => ?_))
 refine Za 8 V V V (Zf V V (Xg (Zb (Yc ?_))))
 apply Xf [2, 3, 4, 5, 6, 8, 9, 10, 11, 12, 13, 14, 15, 16, 17, 18] (σ := Nat) (fun zz => match zz with | i => [(8, .val (.int .i64 i))]) (fun zz => match zz with | i => i ≤ l.length ∧ findI p (l.drop i) i = r) (fun zz => match zz with | i => l.length - i) (0)
 ·repeat' (first | exact Xn | apply Xl rfl | apply Xm rfl)
 ·exact ⟨by omega, hr⟩
 ·exact by4
 rintro i hI
 try dsimp only [List.cons_append, List.nil_append] at hI ⊢
 obtain ⟨hi, hu⟩ := hI
 refine Zh (Zd (Za 9 V V V (Yr V V V ?_))); intro c9 h9
 refine Xg (Zb (Zh ?_))
 rcases Zj h9 with ⟨rfl, g9⟩ | ⟨rfl, g9⟩
 ·refine Zp V (Yu (Yw (x_lp (Yv (Zb (Zh (Zd (Za 4 V V V (Ze V V (Xg (Zb (Zx ?_))))))))))))
  rw [List.drop_eq_nil_of_le (by omega), findI] at hu; exact Zv rfl rfl (Xi _) by3 ⟨by rw [← hu], rfl⟩
 refine Zq V (Yb (Zb (Zh (Yc (Zh ?_)))))
 obtain ⟨⟨yk, ys, yn, yl⟩, hxy⟩ := Yj (l := l) (i := i) by6
 have hcy := Ty.cellss_get hxy
 have hmy := Xp hxy
 refine Zd (Za 10 V V V (Zf V V (Za 5 V V V (Ze V V (Xg (Zb (Zh ?_)))))))
 rw [drop_at hxy, findI] at hu
 have HG := hg _ hmy
 refine Zd (Za 11 V V V (Zf V V (Za 12 V V V (Zf V V (Za 13 V V V (Zf V V (Za 14 V V V (Zz V te_22 V (.seq _ _) V V (hcy) (Za 15 V V V (Zn (cs' := [_, _, _, _]) V Ye V V V (Za 16 V V V (op_callvb (xs := [.tmp 15]) V V V (HG) by1 ?_)))))))))))); intro c16 h16
 refine Xg (Zb ?_)
 rcases Zj h16 with ⟨rfl, g16⟩ | ⟨rfl, g16⟩
 ·refine Zp V (Yb (Yq (Zb (Zd (Za 18 V V V (Yp V V V (Xo _ (by omega)) ?_))))))
  refine Za 8 V V V (Zf V V (Xg (go_lp ?_)))
  rw [if_neg g16] at hu; exact ⟨i + 1, ⟨by omega, hu⟩, by show l.length - (i + 1) < l.length - i; omega, by4, by3⟩
 refine Zq V (Zh (Zd (Za 17 V V V (Zf V V (Za 4 V V V (Ze V V (Xg (Zb (Zx ?_)))))))))
 rw [if_pos g16] at hu; exact Zv rfl rfl (Xi _) by3 ⟨by rw [hu], rfl⟩
theorem CoF_Ty (p : Ty → Bool) (g : FuncId) (fs cs : List AV) (l : List Ty) (hg : ∀ x ∈ l, BCall Tryz.prog g (fs ++ [.agg x.cells] ++ cs) (p x = true)) : BCall Tryz.prog 138 [.seq 4 (Ty.cellss l), .clo (.func g) fs cs] (l.any p = true) := by
 have H := IxF_Ty p g fs cs l hg
 have hf := findI_any (p := p) (l := l)
 refine Zo Tryz.func138 V (by kernel_rfl) V (Xk V) ?_
 refine Ya (Zh (Zd (Za 4 V V V (Ze V V (Xg (Zb (Zh (Zd (Za 5 V V V (Zf V V (Za 6 V V V (Zf V V (Za 7 V V V (Yd (xs := [.tmp 5, .tmp 6]) V V (H) by1 ?_))))))))))))))
 refine Za 8 V V V (op_geq V V V ?_); intro c8 h8
 exact Za 4 V V V (Ze V V (Xg (Zb (Zx (Zv V V (Xi _) by3 ⟨⟨_, h8.trans hf, V⟩, V⟩)))))
theorem all1_Ty (p : Ty → Bool) (g : FuncId) (fs cs : List AV) (x : Ty) (hg : BCall Tryz.prog g (fs ++ [.agg x.cells] ++ cs) (p x = true)) : BCall Tryz.prog 139 [.agg x.cells, .cptr [.clo (.func g) fs cs]] ((!p x) = true) := by
 have hp : (!p x) = true ↔ ¬ p x = true := by simp
 generalize ((!p x) = true) = Q at *
 generalize hq : (p x = true) = q at *
 clear hq
 obtain ⟨k,  s,  n,  ks⟩ := x
 refine Zo Tryz.func139 V (by kernel_rfl) V (Xk V) ?_
 refine Ya (Zh (Zd (Za 2 V V V (Yl (cs' := [_, _, _, _]) V V V V (Za 3 V V V (Ze V V (Xg (Zb (Zh (Zd (Za 4 V V V (Zk V ta_146 V V (Za 5 V V V (Zn (cs' := [_, _, _, _]) V Ye V V V (Za 6 V V V (op_callvb (xs := [.tmp 5]) V V V (hg) by1 ?_)))))))))))))))); intro c6 h6
 refine Za 7 V V V (Yn V V ?_); intro c7 h7
 try replace h7 := nott h7 h6
 exact Za 3 V V V (Ze V V (Xg (Zb (Zx (Zv V V (Xi _) (Xh _) ⟨⟨_, h7.trans hp.symm, V⟩, V⟩)))))
theorem all_Ty (p : Ty → Bool) (g : FuncId) (fs cs : List AV) (l : List Ty) (hg : ∀ x ∈ l, BCall Tryz.prog g (fs ++ [.agg x.cells] ++ cs) (p x = true)) : BCall Tryz.prog 79 [.seq 4 (Ty.cellss l), .clo (.func g) fs cs] (l.all p = true) := by
 have H := CoF_Ty (fun x => !p x) 139 [] [.cptr [.clo (.func g) fs cs]] l (fun x hx => all1_Ty p g fs cs x (hg x hx))
 have hf := any_not (p := p) (l := l)
 refine Zo Tryz.func79 V (by kernel_rfl) V (Xk V) ?_
 refine Ya (Zh (Zd (Za 3 V V V (Yl (cs' := [_]) V V V V (Za 4 V V V (Ze V V (Xg (Zb (Zh (Zd (Za 5 V V V (Zf V V (Za 6 V V V (Xb (fs := []) (cs := [.tmp 3]) V V V (Za 7 V V V (Yh (xs := [.tmp 5, .tmp 6]) V V (H) by1 ?_)))))))))))))))); intro c7 h7
 refine Za 8 V V V (Yn V V ?_); intro c8 h8
 try replace h8 := nott h8 h7
 exact Za 4 V V V (Ze V V (Xg (Zb (Zx (Zv V V (Xi _) (Xh _) ⟨⟨_, h8.trans hf, V⟩, V⟩)))))
end Go.Proofs.YteepjjgooplljaaGreat
namespace Go.Proofs.YteepjjgooplljaaGreat
open Go.RowKit
theorem Args_c (t : Ty) (hmx : t.size ≤ 1000000) : PCall Tryz.prog 85 [.agg t.cells] (.tup [.seq 4 (Ty.cellss t.args), .agg t.ans.cells]) := by
 have has := Ty.args_size t
 obtain ⟨k, s, n, ks⟩ := t
 refine Zo Tryz.func85 V (by kernel_rfl) V (Xk V) ?_
 refine Ya (Zh (Zd (Za 1 V V V (op_boxe (cs' := [_, _, _, _]) V V V V ?_)))); intro b1
 refine Za 2 V V V (Ze V V (Za 3 V V V (Zy (cs' := [_, _, _, _]) V Yy V V ?_))); intro b3
 refine Xg (Zb (Zh (Zd (Za 4 V V V (Ze V V (Xg (Zb (Zh (Yc (ACode.ownNil (t := 4) 24 4 V ?_))))))))))
 refine c_loop (σ := Ty × List Ty × Value) (fun zz => match zz with | (c, dn, u) => [(1, .ptr b1 0), (3, .ptr b3 0), (4, .own u 4 (Ty.cellss dn))]) (fun zz => match zz with | (c, dn, u) => [.own 24 4 u, .loc b3 [.val (.int .i64 0), .val (.string ⟨#[]⟩), .val (.int .i64 0), .val (.slice none 0 0)], .loc b1 c.cells]) (fun zz => match zz with | (c, dn, u) => dn ++ c.args = Ty.args (.mk k s n ks) ∧ c.ans = Ty.ans (.mk k s n ks)) (fun zz => match zz with | (c, dn, u) => c.size) ((.mk k s n ks, [], .slice none 0 0)) ?_ ?_ ?_ ?_
 ·exact ⟨V, V⟩
 ·exact by4
 ·exact by3
 rintro ⟨⟨ck, cs, cn, cks⟩, dn, u⟩ hI
 try dsimp only [List.cons_append, List.nil_append] at hI ⊢
 obtain ⟨ha, hb⟩ := hI
 refine Zh (Zh (Zd (Za 5 V V V (Zt (cs' := [_, _, _, _]) (i := 2) V Ye V V V V (Za 6 V V V (Yh (xs := [.tmp 5]) V V (fun_c (.mk ck cs cn cks)) by1 ?_)))))); intro c6 h6
 refine Xg (Zb ?_)
 rcases Zj h6 with ⟨rfl, g6⟩ | ⟨rfl, g6⟩
 ·refine Zp V (Yu (Yw (x_lp (Yv (Zb (Zh ?_))))))
  rw [Ty.args_not g6] at ha
  rw [Ty.ans_not g6] at hb
  refine c_drawnE [0, 1, 2, 3] [3] [[], [], [0], [0, 1, 2]] tmix V (Zr 18 (none) (i := 0) V V V V V (Zf V V ⟨V, V⟩) ?_)
  refine Zr 19 (some 2) (i := 1) V V V V V (Zt (cs' := [_, _, _, _]) (i := 0) V Ye V V V V ⟨V, V⟩) ?_
  refine Zr 2 (none) (i := 2) V V V V V (Ze V V ⟨V, V⟩) ?_
  refine EOps.w 1 (i := 3) V V V V V (Zw (cs' := [_, _, _, _]) (i := 0) V Yx V V V V V (Xk V) V ⟨_, V, ?_⟩)
  show AGo _ _ _ _ _ _ _
  refine Zb (Zx ?_)
  rw [← ha, ← hb]
  exact out_tc (i := 1) V V V V Ye V (by repeat' (first | exact Xi _ | exact Le.own _ _ _ | exact Le.nil _ | refine Le.agg ?_ | refine Le.tup ?_ | exact Les.refl _ | refine Les.cons ?_ ?_ | (refine Le.own_eq ?_; simp) | (refine Le.own_seq ?_; simp) | (refine Le.seq_eq ?_; simp))) by3 ⟨V, V⟩
 refine Zq V (Yb (Zb (Yc (Zh ?_))))
 obtain ⟨n', ⟨ka, sa, na, kas⟩, ⟨kb, sb, nb, kks⟩, e⟩ := Ty.fun_kids g6
 cases e
 rw [Ty.args_fun] at ha
 rw [Ty.ans_fun] at hb
 have hln := congrArg List.length ha
 simp only [List.length_append, List.length_cons] at hln
 refine Zd (Za 7 V V V (Zf V V (Za 8 V V V (Zs V Xa V (Za 9 V V V (Yg (i := 2) V Xc V V V ?_))))))
 refine Za 10 V V V (Zz (i := 0) V te_22 V (.seq _ _) V V (by first | rfl | assumption) ?_)
 refine Za 11 V V V (Zn (cs' := [_, _, _, _]) V Ye V V V (Za 12 V V V (op_buildSlice (xs := [.tmp 11]) el_22 V V V V V V (Xk V) ?_)))
 refine Za 13 V V V (op_append (i := 0) el_22 V V V V (.seq _ _) (by simp [Ty.cellss_len]; omega) ?_)
 intro u13
 refine Za 4 V V V (Ze V V (Xg (Zb (Zd (Za 14 V V V (Zs V Xa V (Za 15 V V V (Yg (i := 2) V Xc V V V ?_))))))))
 refine Za 16 V V V (Zz (i := 1) V te_22 V (.seq _ _) V V (by first | rfl | assumption) ?_)
 refine Za 17 V V V (Zn (cs' := [_, _, _, _]) V Ye V V V (Yf V V (Zw (cs' := [_, _, _, _]) (i := 2) V Yx V V V V V (Xk V) V (Xg (Yq (go_lp ?_))))))
 exact ⟨(.mk kb sb nb kks, dn ++ [.mk ka sa na kas], u13), ⟨by rw [← ha]; simp, hb⟩, by simp [Ty.size, Ty.sizes]; omega, (by repeat' (first | exact SLe.nil _ | refine SLe.cons V ?_ ?_ | exact Xi _ | exact Le.own _ _ _ | exact Le.nil _ | (refine Le.own_eq ?_; (rw [Ty.cellss_app]; rfl)) | (refine Le.own_seq ?_; (rw [Ty.cellss_app]; rfl)) | (refine Le.seq_eq ?_; (rw [Ty.cellss_app]; rfl)))), by3⟩
section
variable {P : Program} {n : Nat} {al : Sl} {M : Mem} {o : Oper} {K : AV → Mem → Prop}
theorem op_beqlc {x y : Operand} {t t' : TypeId} {a b : Bool} (ho : o.op = .binOp .eql t x y t') (ht : P.underlying t = some .bool) (hx : al.ev x = some (.val (.bool a))) (hy : al.ev y = some (.val (.bool b))) (q : ∀ c : Bool, (c = true ↔ a = b) → K (.val (.bool c)) M) : OpT P o al M K :=
 op_beql ho ht hx hy (q _ (by simp))
end
section
variable {P : Program} {al : Sl} {M : Mem} {K : AV → Mem → Prop} {o : Oper}
end
end Go.Proofs.YteepjjgooplljaaGreat
namespace Go.Proofs.YteepjjgooplljaaGreat
open Go.RowKit
section
variable {P : Program} {al : Sl} {M : Mem} {K : AV → Mem → Prop} {o : Oper}
theorem Le.nilOwn (m : Nat) : Le (.val (.slice none 0 0)) (.own (.slice none 0 0) m []) := fun F u h => by
 cases h; exact .own _ (.seq0 m none 0 (fun _ => rfl))
theorem c_ownNew {ro : Option Nat} {n : Nat} {ks : List Kont} {Q : Exit → Sl → Mem → Prop} {c : Code} (e : TypeId) (m : Nat) (h : ACode ro P n c (after ro P n ks Q) al (M ++ [.own e m (.slice none 0 0)])) : ACode ro P n c (after ro P n ks Q) al M := fun B F Mf a w hi hs => by
 refine h B F Mf a w ?_ hs
 refine (hi.ownNil e m).perm ?_
 have : (Res.own e m (.slice none 0 0) :: (M ++ Mf)).Perm (M ++ Res.own e m (.slice none 0 0) :: Mf) := List.perm_middle.symm
 simpa using this
end
end Go.Proofs.YteepjjgooplljaaGreat
namespace Go.Proofs.YteepjjgooplljaaGreat
open Go.RowKit
end Go.Proofs.YteepjjgooplljaaGreat
namespace Go.Proofs.YteepjjgooplljaaGreat
def lack (l met : List ByteArray) : Nat := (l.filter fun s => !hasB met s).length
theorem hasB_app (a b : List ByteArray) (s : ByteArray) : hasB (a ++ b) s = (hasB a s || hasB b s) := by unfold hasB; rw [List.any_append]
theorem lack_le (l : List ByteArray) (met : List ByteArray) (s : ByteArray) : lack l (met ++ [s]) ≤ lack l met := by
 unfold lack
 induction l with
 | nil => simp
 | cons x l ih =>
  simp only [List.filter_cons, hasB_app, Bool.not_or]
  cases h : hasB met x with
  | true => simpa [h] using (by simpa [hasB_app] using ih)
  | false =>
   simp only [hasB_app, Bool.not_or] at ih
   cases h2 : hasB [s] x <;> simp <;> omega
theorem lack_lt {l : List ByteArray} {met : List ByteArray} {s : ByteArray} (hs : s ∈ l) (hm : ¬ hasB met s = true) : lack l (met ++ [s]) + 1 ≤ lack l met := by
 induction l with
 | nil => simp at hs
 | cons x l ih =>
  have hle := lack_le l met s
  unfold lack at *
  simp only [List.filter_cons, hasB_app, Bool.not_or] at *
  by_cases e : s = x
  ·subst e
   have h1 : hasB met s = false := by simpa using hm
   have h2 : hasB [s] s = true := hasB_iff.2 (by simp)
   simp only [h1, h2, Bool.not_true, Bool.not_false, Bool.and_false]
   simp
   omega
  have hs' : s ∈ l := by
   rcases List.mem_cons.1 hs with q | q
   ·exact absurd q e
   exact q
  have := ih hs'
  cases h : hasB met x with
  | true => simpa [h] using this
  | false => cases h2 : hasB [s] x <;> simp <;> omega
def Grow (l met met' : List ByteArray) : Prop := met'.length + lack l met' ≤ met.length + lack l met ∧ lack l met' ≤ lack l met ∧ ∀ s ∈ met, s ∈ met'
theorem Grow.refl (l met : List ByteArray) : Grow l met met := ⟨Nat.le_refl _, Nat.le_refl _, fun _ h => h⟩
theorem Grow.trans {l a b c : List ByteArray} (h : Grow l a b) (k : Grow l b c) : Grow l a c := ⟨Nat.le_trans k.1 h.1, Nat.le_trans k.2.1 h.2.1, fun s hs => k.2.2 s (h.2.2 s hs)⟩
theorem Grow.add {l met : List ByteArray} {s : ByteArray} (hs : s ∈ l) (hm : ¬ hasB met s = true) : Grow l met (met ++ [s]) := by
 have := lack_lt hs hm
 exact ⟨by simp; omega, by omega, fun x hx => by simp [hx]⟩
open Go.RowKit
end Go.Proofs.YteepjjgooplljaaGreat
namespace Go.Proofs.YteepjjgooplljaaGreat
open Go.RowKit
end Go.Proofs.YteepjjgooplljaaGreat
namespace Go.Proofs.YteepjjgooplljaaGreat
noncomputable instance : DecidableEq Ty := fun a b => Classical.propDecidable (a = b)
mutual
theorem Ty.VarOk.all : ∀ t : Ty, t.VarOk → ∀ x ∈ t.all, x.VarOk
 | .mk k s n ks, h, x, hx => by
  rw [Ty.all] at hx
  rcases List.mem_cons.1 hx with rfl | hx
  ·exact h
  obtain ⟨_, _, _, _, _, hk⟩ := h
  exact Ty.VarOk.alls ks hk x hx
theorem Ty.VarOk.alls : ∀ ts : List Ty, (∀ t ∈ ts, t.VarOk) → ∀ x ∈ Ty.alls ts, x.VarOk
 | [], _, x, hx => by rw [Ty.alls] at hx; simp at hx
 | t :: ts, h, x, hx => by
  rw [Ty.alls] at hx
  rcases List.mem_append.1 hx with hx | hx
  ·exact Ty.VarOk.all t (h t (by simp)) x hx
  exact Ty.VarOk.alls ts (fun y hy => h y (by simp [hy])) x hx
end
open Go.RowKit
def EOpsF (P : Program) (ops : List Oper) (ws : List Nat) (anc : List (List Nat)) (i0 : Nat) (cs0 : List AV) (Q : Sl → Mem → Prop) : List Nat → Sl → Mem → List (Nat × Nat) → Prop
 | [], al, M, _ => Q al M
 | i :: ord, al, M, L => ∃ o, ops[i]? = some o ∧
     if i = i0 then ∀ b, EOpsF P ops ws anc i0 cs0 Q ord (al.put o.dst (.ptr b 0)) (M ++ [.loc b cs0]) L
     else if ws.contains i then o.guard = none ∧
      ((∃ k r, M[k]? = some r ∧ (L.all fun x => x.2 != k || (anc.getD i []).contains x.1) = true ∧ OpT P o (al.only (Oper.tmps o)) [r] (fun v M' => ∃ r', M' = [r'] ∧ EOpsF P ops ws anc i0 cs0 Q ord (al.put o.dst v) (M.set k r') L)) ∨
       OpT P o (al.only (Oper.tmps o)) [] (fun v M' => EOpsF P ops ws anc i0 cs0 Q ord (al.put o.dst v) (M ++ M') L))
     else ∃ (fp : Option Nat) (v : AV), fp.all (fun k => Nat.blt k M.length) = true ∧ DStep P ops o al (fpm M fp) v ∧ EOpsF P ops ws anc i0 cs0 Q ord (al.put o.dst v) M ((fp.toList.map fun k => (i, k)) ++ L)
def flowEF (n : Nat) (l : List Oper) (ord ws : List Nat) (anc : List (List Nat)) (i0 : Nat) : Bool :=
 (ord.length == l.length && (List.range l.length).all (ord.contains ·) && decide ord.Nodup && ord.all (fun i => Nat.blt i l.length)) &&
 (l.zipIdx.all fun (o, i) => o.dst.all (· < n) && (bindsOn o).all (fun j => j < i) &&
  (anc.getD i []).all (fun a => (bindsOn o).contains a || (bindsOn o).any (fun c => (anc.getD c []).contains a))) &&
 (ws.all fun j => (List.range l.length).all fun i => i == j || befo ord i j || (anc.getD i []).contains j || i == i0) &&
 (l.zipIdx.all fun (o, i) => l.zipIdx.all fun (p, k) => (k == i || o.dst.isNone || o.dst != p.dst) &&
     (match p.dst with
      | some t => !(Oper.sees l o).contains t || k == i || (if befo ord k i then (anc.getD i []).contains k else (anc.getD k []).contains i)
      | none => true)) && ws.contains i0
structure FlowEF (n : Nat) (l : List Oper) (ord ws : List Nat) (anc : List (List Nat)) (i0 : Nat) : Prop where
 nodup : ord.Nodup
 mem : ∀ i, i < l.length → i ∈ ord
 lt : ∀ i ∈ ord, i < l.length
 dst : ∀ (i : Nat) (o : Oper), l[i]? = some o → o.dst.all (· < n) = true
 back : ∀ (i : Nat) (o : Oper), l[i]? = some o → ∀ j ∈ bindsOn o, j < i
 ancs : ∀ (i : Nat) (o : Oper), l[i]? = some o → ∀ a ∈ anc.getD i [], a ∈ bindsOn o ∨ ∃ c ∈ bindsOn o, a ∈ anc.getD c []
 wild : ∀ j ∈ ws, ∀ i, i < l.length → i = j ∨ befo ord i j = true ∨ j ∈ anc.getD i [] ∨ i = i0
 once : ∀ (i : Nat) (o : Oper) (k : Nat) (p : Oper) (t : Tmp), l[i]? = some o → l[k]? = some p → o.dst = some t → p.dst = some t → k = i
 see : ∀ (i : Nat) (o : Oper) (k : Nat) (p : Oper) (t : Tmp), l[i]? = some o → l[k]? = some p → p.dst = some t → t ∈ Oper.sees l o → k = i ∨ (befo ord k i = true ∧ k ∈ anc.getD i []) ∨ (befo ord k i = false ∧ i ∈ anc.getD k [])
 free : i0 ∈ ws
theorem FlowEF.of {n : Nat} {l : List Oper} {ord ws : List Nat} {anc : List (List Nat)} {i0 : Nat} (h : flowEF n l ord ws anc i0 = true) : FlowEF n l ord ws anc i0 := by
 unfold flowEF at h
 simp only [Bool.and_eq_true] at h
 obtain ⟨⟨⟨⟨⟨⟨⟨_, h2⟩, h3⟩, h7⟩, h4⟩, h5⟩, h6⟩, h8⟩ := h
 have hmem : ∀ i, i < l.length → i ∈ ord := fun i hi => by simpa using all_range h2 hi
 refine ⟨by simpa using h3, hmem, fun i hi => by simpa [Nat.blt_eq] using List.all_eq_true.1 h7 i hi, fun i o ho => ?_, fun i o ho j hj => ?_, fun i o ho a ha => ?_, fun j hj i hi => ?_, fun i o k p t ho hp e1 e2 => ?_, fun i o k p t ho hp e1 e2 => ?_, by simpa using h8⟩
 ·have := Ys h4 ho
  simp only [Bool.and_eq_true] at this
  exact this.1.1
 ·have := Ys h4 ho
  simp only [Bool.and_eq_true, List.all_eq_true, decide_eq_true_eq] at this
  exact this.1.2 j hj
 ·have := Ys h4 ho
  simp only [Bool.and_eq_true, List.all_eq_true] at this
  have := this.2 a ha
  simp only [Bool.or_eq_true, List.contains_iff_mem, List.any_eq_true] at this
  exact this
 ·have := all_range (List.all_eq_true.1 h5 j hj) hi
  simp only [Bool.or_eq_true, beq_iff_eq, List.contains_iff_mem] at this
  rcases this with ((q | q) | q) | q
  ·exact Or.inl q
  ·exact Or.inr (Or.inl q)
  ·exact Or.inr (Or.inr (Or.inl q))
  exact Or.inr (Or.inr (Or.inr q))
 ·have := Ys (Ys h6 ho) hp
  simp only [Bool.and_eq_true, Bool.or_eq_true, beq_iff_eq] at this
  rcases this.1 with (q | q) | q
  ·exact q
  ·simp [e1] at q
  simp [e1, e2] at q
 have := (Bool.and_eq_true _ _ ▸ Ys (Ys h6 ho) hp).2
 simp only [e1, Bool.or_eq_true, beq_iff_eq, Bool.not_eq_true'] at this
 rcases this with (q | q) | q
 ·simp [e2] at q
 ·exact Or.inl q
 split at q
 ·rename_i hb; exact Or.inr (Or.inl ⟨hb, by simpa using q⟩)
 rename_i hb
 by_cases e : k = i
 ·exact Or.inl e
 exact Or.inr (Or.inr ⟨by simpa using hb, by simpa using q⟩)
section
variable {P : Program} {n : Nat} {l : List Oper} {ord ws : List Nat} {anc : List (List Nat)} {QQ : Sl → Mem → Prop} {al : Sl} {i0 : Nat} {cs0 : List AV}
variable {M : Mem} {L : List (Nat × Nat)} {o : Oper}
theorem EOpsF.d {v : AV} {i : Nat} (d : Nat) (fp : Option Nat) (hz : Nat.beq i i0 = false) (hi : l[i]? = some o) (hw : ws.contains i = false) (hg : o.guard = none) (hd : o.dst = some d) (hfp : fp.all (fun k => Nat.blt k M.length) = true) (h : OpT P o (al.only (Oper.tmps o)) (fpm M fp) (fun v' M' => v' = v ∧ M' = fpm M fp)) (q : EOpsF P l ws anc i0 cs0 QQ ord ((d, v) :: al) M ((fp.toList.map fun k => (i, k)) ++ L)) : EOpsF P l ws anc i0 cs0 QQ (i :: ord) al M L :=
 ⟨o, hi, by rw [if_neg (Nat.ne_of_beq_eq_false hz), if_neg (by rw [hw]; simp)]; exact ⟨fp, v, hfp, by unfold DStep; rw [hg]; exact h, by rw [hd]; exact q⟩⟩
theorem EOpsF.w {i : Nat} {r : Res} (k : Nat) (hz : Nat.beq i i0 = false) (hi : l[i]? = some o) (hw : ws.contains i = true) (hg : o.guard = none) (hr : M[k]? = some r) (hL : (L.all fun x => x.2 != k || (anc.getD i []).contains x.1) = true) (h : OpT P o (al.only (Oper.tmps o)) [r] (fun v M' => ∃ r', M' = [r'] ∧ EOpsF P l ws anc i0 cs0 QQ ord (al.put o.dst v) (M.set k r') L)) : EOpsF P l ws anc i0 cs0 QQ (i :: ord) al M L :=
 ⟨o, hi, by rw [if_neg (Nat.ne_of_beq_eq_false hz), if_pos hw]; exact ⟨hg, .inl ⟨k, r, hr, hL, h⟩⟩⟩
theorem EOpsF.nw {i : Nat} (hz : Nat.beq i i0 = false) (hi : l[i]? = some o) (hw : ws.contains i = true) (hg : o.guard = none) (h : OpT P o (al.only (Oper.tmps o)) [] (fun v M' => ∃ r', M' = [r'] ∧ EOpsF P l ws anc i0 cs0 QQ ord (al.put o.dst v) (M ++ [r']) L)) : EOpsF P l ws anc i0 cs0 QQ (i :: ord) al M L :=
 ⟨o, hi, by rw [if_neg (Nat.ne_of_beq_eq_false hz), if_pos hw]; exact ⟨hg, .inr (OpT.mono h (by rintro v M' ⟨r', rfl, h⟩; exact h))⟩⟩
theorem EOpsF.free {i d : Nat} (hz : i = i0) (hi : l[i]? = some o) (hd : o.dst = some d) (q : ∀ b, EOpsF P l ws anc i0 cs0 QQ ord ((d, .ptr b 0) :: al) (M ++ [.loc b cs0]) L) : EOpsF P l ws anc i0 cs0 QQ (i :: ord) al M L :=
 ⟨o, hi, by rw [if_pos hz, hd]; exact q⟩

end
end Go.Proofs.YteepjjgooplljaaGreat
namespace Go.Proofs.YteepjjgooplljaaGreat
open Go.RowKit
end Go.Proofs.YteepjjgooplljaaGreat
namespace Go.Proofs.YteepjjgooplljaaGreat
open Go.RowKit
end Go.Proofs.YteepjjgooplljaaGreat
namespace Go.Proofs.YteepjjgooplljaaGreat
open Go.RowKit
end Go.Proofs.YteepjjgooplljaaGreat
namespace Go.Proofs.YteepjjgooplljaaGreat
open Go.RowKit
end Go.Proofs.YteepjjgooplljaaGreat
namespace Go.Proofs.YteepjjgooplljaaGreat
open Go.RowKit
end Go.Proofs.YteepjjgooplljaaGreat
namespace Go.Proofs.YteepjjgooplljaaGreat
open Go.RowKit
end Go.Proofs.YteepjjgooplljaaGreat
namespace Go.Proofs.YteepjjgooplljaaGreat
open Go.RowKit
end Go.Proofs.YteepjjgooplljaaGreat
namespace Go.Proofs.YteepjjgooplljaaGreat
def POk (L : List Tok) (n : Nat) (p : PS) : Prop := p.at_ ≤ L.length ∧ 0 ≤ p.lv ∧ p.lv ≤ 301 ∧ (p.e = 0 → 301 ≤ p.lv + n ∧ p.lv ≤ 300)
def Adv (L : List Tok) (p p' : PS) : Prop := p.at_ ≤ p'.at_ ∧ p'.at_ ≤ L.length ∧ p.lv ≤ p'.lv ∧ p'.lv ≤ 301 ∧ (p'.e = 0 → p.e = 0 ∧ p'.lv = p.lv)
section
variable {L : List Tok} {n : Nat} {p p' p'' : PS}
theorem Adv.trans (h : Adv L p p') (k : Adv L p' p'') : Adv L p p'' := by
 unfold Adv at *; exact ⟨by omega, k.2.1, by omega, k.2.2.2.1, fun e => ⟨(h.2.2.2.2 (k.2.2.2.2 e).1).1, by rw [(k.2.2.2.2 e).2, (h.2.2.2.2 (k.2.2.2.2 e).1).2]⟩⟩
theorem Adv.ok (h : Adv L p p') (k : POk L n p) : POk L n p' := by
 unfold Adv POk at *
 refine ⟨h.2.1, by omega, h.2.2.2.1, fun e => ?_⟩
 obtain ⟨e1, e2⟩ := h.2.2.2.2 e
 rw [e2]; exact k.2.2.2 e1
theorem POk.refl (k : POk L n p) : Adv L p p := by
 unfold POk at k; exact ⟨Nat.le_refl _, k.1, Int.le_refl _, k.2.2.1, fun e => ⟨e, rfl⟩⟩
theorem POk.up {m : Nat} (k : POk L n p) (h : 301 ≤ m) : POk L m p := by
 unfold POk at *; exact ⟨k.1, k.2.1, k.2.2.1, fun e => ⟨by omega, (k.2.2.2 e).2⟩⟩
section types
variable {T : PS → Ty × PS} (HT : ∀ p, POk L n p → Adv L p (T p).2)
include HT
end types
section pats
variable {T : PS → Pa × PS} (HT : ∀ p, POk L n p → Adv L p (T p).2)
include HT
end pats
end
section
variable {L : List Tok} {n : Nat} {p p' p'' : PS}
section exps
variable {E : PS → Ex × PS} (HE : ∀ p, POk L n p → Adv L p (E p).2)
include HE
end exps
end
end Go.Proofs.YteepjjgooplljaaGreat
namespace Go.Proofs.YteepjjgooplljaaGreat
section
variable {L : List Tok} {n : Nat}
def CtxV (l : List Pr) : Prop := ∀ p ∈ l, ∃ c s, p = .mk c (.mk 1 s 0 [])
def DaB (d : Da) : Prop := d.ps.length ≤ 100000 ∧ d.cs.length ≤ 100000
def ClB (c : Cl) : Prop := c.su.length ≤ 100000 ∧ c.ms.length ≤ 100000 ∧ c.ds.length ≤ 100000 ∧ ∀ m ∈ c.ms, m.t.size ≤ 1000000
def InB (x : In) : Prop := x.cx.length ≤ 100000 ∧ x.bs.length ≤ 100000 ∧ x.hd.kids.length ≤ 200000
structure PgB (m : Nat) (x : Pg) : Prop where
 da : x.da.length ≤ m
 cl : x.cl.length ≤ m
 ins : x.ins.length ≤ m
 bs : x.bs.length ≤ m
 das : ∀ d ∈ x.da, DaB d
 cls : ∀ c ∈ x.cl, ClB c
 inss : ∀ y ∈ x.ins, InB y ∧ CtxV y.cx
end
theorem PgB.up {m m' : Nat} {x : Pg} (h : PgB m x) (k : m ≤ m') : PgB m' x := ⟨Nat.le_trans h.da k, Nat.le_trans h.cl k, Nat.le_trans h.ins k, Nat.le_trans h.bs k, h.das, h.cls, h.inss⟩
open Go.RowKit
theorem IxF_Cl (p : Cl → Bool) (g : FuncId) (fs cs : List AV) (l : List Cl) (hg : ∀ x ∈ l, BCall Tryz.prog g (fs ++ [.agg x.cells] ++ cs) (p x = true)) : PCall Tryz.prog 209 [.seq 6 (Cl.cellss l), .clo (.func g) fs cs] (.val (.int .i64 (findI p l 0))) := by
 have hl := Cl.cellss_len l
 obtain ⟨r, hr⟩ : ∃ r, findI p l 0 = r := ⟨_, rfl⟩
 rw [hr]
 refine Zo Tryz.func209 V (by kernel_rfl) V (Xk V) ?_
 refine Ya ?_
 refine c_lens (t := 0) V (.seq _ _) (fun hmax => ?_)
 refine Zh (Zd (Za 4 V V V (Ze V V (Xg (Zb (Zh (Zh (Zd (Za 6 V V V (Zf V V ?_))))))))))
 refine Za 7 V V V (Yi V tu_38 V (.seq _ _) (fun n7 => ?_))
 refine Za 8 V V V (Zf V V (Xg (Zb (Yc ?_))))
 apply Xf [2, 3, 4, 5, 6, 8, 9, 10, 11, 12, 13, 14, 15, 16, 17, 18] (σ := Nat) (fun zz => match zz with | i => [(8, .val (.int .i64 i))]) (fun zz => match zz with | i => i ≤ l.length ∧ findI p (l.drop i) i = r) (fun zz => match zz with | i => l.length - i) (0)
 ·repeat' (first | exact Xn | apply Xl rfl | apply Xm rfl)
 ·exact ⟨by omega, hr⟩
 ·exact by4
 rintro i hI
 try dsimp only [List.cons_append, List.nil_append] at hI ⊢
 obtain ⟨hi, hu⟩ := hI
 refine Zh (Zd (Za 9 V V V (Yr V V V ?_))); intro c9 h9
 refine Xg (Zb (Zh ?_))
 rcases Zj h9 with ⟨rfl, g9⟩ | ⟨rfl, g9⟩
 ·refine Zp V (Yu (Yw (x_lp (Yv (Zb (Zh (Zd (Za 4 V V V (Ze V V (Xg (Zb (Zx ?_))))))))))))
  rw [List.drop_eq_nil_of_le (by omega), findI] at hu; exact Zv rfl rfl (Xi _) by3 ⟨by rw [← hu], rfl⟩
 refine Zq V (Yb (Zb (Zh (Yc (Zh ?_)))))
 obtain ⟨⟨ys, yv, ysu, yms, yds, yp⟩, hxy⟩ := Yj (l := l) (i := i) by6
 have hcy := Cl.cellss_get hxy
 have hmy := Xp hxy
 refine Zd (Za 10 V V V (Zf V V (Za 5 V V V (Ze V V (Xg (Zb (Zh ?_)))))))
 rw [drop_at hxy, findI] at hu
 have HG := hg _ hmy
 simp only [Cl.cells] at HG
 refine Zd (Za 11 V V V (Zf V V (Za 12 V V V (Zf V V (Za 13 V V V (Zf V V (Za 14 V V V (Zz V te_38 V (.seq _ _) V V (by assumption) ?_))))))))
 refine Za 15 V V V (Zn (cs' := [_, _, _, _, _, _]) V ta_118 V V V (Za 16 V V V (op_callvb (xs := [.tmp 15]) V V V (HG) by1 ?_))); intro c16 h16
 refine Xg (Zb ?_)
 rcases Zj h16 with ⟨rfl, g16⟩ | ⟨rfl, g16⟩
 ·refine Zp V (Yb (Yq (Zb (Zd (Za 18 V V V (Yp V V V (Xo _ (by omega)) ?_))))))
  refine Za 8 V V V (Zf V V (Xg (go_lp ?_)))
  rw [if_neg g16] at hu; exact ⟨i + 1, ⟨by omega, hu⟩, by show l.length - (i + 1) < l.length - i; omega, by4, by3⟩
 refine Zq V (Zh (Zd (Za 17 V V V (Zf V V (Za 4 V V V (Ze V V (Xg (Zb (Zx ?_)))))))))
 rw [if_pos g16] at hu; exact Zv rfl rfl (Xi _) by3 ⟨by rw [hu], rfl⟩
theorem fnd_Cl (p : Cl → Bool) (g : FuncId) (fs cs : List AV) (l : List Cl) (hg : ∀ x ∈ l, BCall Tryz.prog g (fs ++ [.agg x.cells] ++ cs) (p x = true)) : ACall Tryz.prog 185 [.seq 6 (Cl.cellss l), .clo (.func g) fs cs] [] (fun v M' => (∃ b : Bool, (b = true ↔ 0 ≤ findI p l 0) ∧ v = .tup [.val (.int .i64 (max (findI p l 0) 0)), .val (.bool b)]) ∧ M' = []) := by
 have H := IxF_Cl p g fs cs l hg
 refine Zo Tryz.func185 V (by kernel_rfl) V (Xk V) ?_
 refine Ya (Zh (Zd (Za 4 V V V (Ze V V (Za 5 V V V (Ze V V (Xg (Zb (Zh (Zd (Za 7 V V V (Zf V V (Za 8 V V V (Zf V V (Za 9 V V V (Yd (xs := [.tmp 7, .tmp 8]) V V (H) by1 ?_))))))))))))))))
 refine Za 6 V V V (Ze V V (Xg (Zb (Zh (Zd (Za 10 V V V (Zf V V (Za 11 V V V (op_max V V V (Za 12 V V V (Zf V V (Za 13 V V V (op_geq V V V ?_))))))))))))); intro c13 h13
 refine Za 4 V V V (Ze V V (Za 5 V V V (Ze V V (Xg (Zb (Zx ?_))))))
 exact out_tt V V V (Xi _) by3 ⟨⟨_, h13, V⟩, V⟩
theorem Class1_c (c : Cl) (s : ByteArray) : BCall Tryz.prog 186 [.agg c.cells, .cptr [.val (.string s)]] (sameB c.s s = true) := by
 obtain ⟨cs, cv, csu, cms, cds, cp⟩ := c
 simp only [Cl.cells, Cl.s, sameB_iff]
 refine Zo Tryz.func186 V (by kernel_rfl) V (Xk V) ?_
 refine Ya (Zh (Zd (Za 2 V V V (Yl (cs' := [_, _, _, _, _, _]) V V V V (Za 3 V V V (Ze V V (Xg (Zb (Zh (Zd (Za 4 V V V (Zg V tf_118_0 V V (Za 5 V V V (Zk V ta_9 V V (Za 6 V V V (Zk V ta_9 V V (Za 7 V V V (op_seql V V V ?_)))))))))))))))))); intro c7 h7
 exact Za 3 V V V (Ze V V (Xg (Zb (Zx (Zv V V (Xi _) by3 ⟨⟨_, h7, V⟩, V⟩)))))
theorem tClass_c (v : En) (s : ByteArray) : PCall Tryz.prog 154 [.agg v.cells, .val (.string s)] (.tup [.val (.int .i64 (max (classI v s) 0)), .val (.bool (decide (0 ≤ classI v s)))]) := by
 have H := fnd_Cl (fun c => sameB c.s s) 186 [] [.cptr [.val (.string s)]] v.cl (fun x _ => Class1_c x s)
 have he : findI (fun c => sameB c.s s) v.cl 0 = classI v s := rfl
 rw [he] at H
 obtain ⟨da, cl, ins⟩ := v
 simp only [En.cl] at H
 simp only [En.cells]
 refine Zo Tryz.func154 V (by kernel_rfl) V (Xk V) ?_
 refine Ya (Zh (Zd (Za 2 V V V (Yl (cs' := [_, _, _]) V V V V (Za 3 V V V (Yl (cs' := [_]) V V V V (Za 4 V V V (Ze V V (Za 5 V V V (Ze V V (Xg (Zb (Zh (Zd (Za 6 V V V (Zg V tf_41_1 V V (Za 7 V V V (Zk V ta_38 V V (Za 8 V V V (Xb (fs := []) (cs := [.tmp 3]) V V V (Za 9 V V V (op_callat [] (xs := [.tmp 7, .tmp 8])  V V V H by1 ?_))))))))))))))))))))))
 rintro v9 M9 ⟨⟨b9, hb9, rfl⟩, rfl⟩
 refine Za 10 V V V (Ym V V V (Za 11 V V V (Ym V V V (Za 4 V V V (Ze V V (Za 5 V V V (Ze V V (Xg (Zb (Zx ?_))))))))))
 obtain rfl : b9 = decide (0 ≤ classI (En.mk da cl ins) s) := by cases b9 <;> simp_all
 exact out_tt V V V (Xi _) by3 ⟨V, V⟩
theorem sHasPrefix_c (s : ByteArray) : BCall Tryz.prog 203 [.val (.string s), .val (.string kBr)] (isBr s = true) := by
 have h0 := @isBr_size s
 have hq : isBr s = true ↔ s.extract 0 1 = kBr := by unfold isBr; exact sameB_iff
 have hk : kBr.size = 1 := rfl
 generalize (isBr s = true) = q at *
 refine Zo Tryz.func203 V (by kernel_rfl) V (Xk V) ?_
 refine Ya (Zh (Zd (Za 4 V V V (Ze V V (Xg (Zb (Zh (Xe 4 (q) ?_ _ _ V ?_))))))))
 ·skip
  refine Za 5 V V V (Zf V V (Za 6 V V V (op_len_str V tu_9 V (Za 7 V V V (Zf V V (Za 8 V V V (op_len_str V tu_9 V (Za 9 V V V (op_geq V V V ?_))))))))); intro c9 h9
  refine Za 10 V V V (Zf V V ?_)
  rcases Zj h9 with ⟨rfl, g9⟩ | ⟨rfl, g9⟩
  ·skip
   refine Zc 11 V V V V V (Zc 12 V V V V V (Zc 13 V V V V V (Zc 14 V V V V V (Zc 15 V V V V V (Zc 16 V V V V V (Za 17 V V V (Zl V V V (Za 4 V V V (Ze V V (Xg (Xj V ?_ by5 by3)))))))))))
   first | (simp_all; done) | grind
  skip
  refine Zi 11 V V V V V (Zf V V (Zi 12 V V V V V (Zf V V (Zi 13 V V V V V (op_len_str V tu_9 V ?_)))))
  refine Zi 14 rfl rfl rfl rfl rfl (op_substrh (j := 1) rfl tu_9 rfl rfl (by first | rfl | omega) (by first | omega | assumption) ?_)
  refine Zi 15 V V V V V (Zf V V (Zi 16 V V V V V (op_seql V V V ?_))); intro c16 h16
  refine Za 17 V V V (Zl V V V (Za 4 V V V (Ze V V (Xg (Xj V ?_ by5 by3)))))
  first | (simp_all; done) | grind
 intro c4 h4
 exact Zb (Zx (Zv V V (Xi _) by3 ⟨⟨_, h4, V⟩, V⟩))
theorem HasPrefix_c (s : ByteArray) : BCall Tryz.prog 174 [.val (.string s), .val (.string kBr)] (isBr s = true) := by
 have H := sHasPrefix_c s
 refine Zo Tryz.func174 V (by kernel_rfl) V (Xk V) ?_
 refine Ya (Zh (Zd (Za 4 V V V (Ze V V (Xg (Zb (Zh (Zd (Za 5 V V V (Zf V V (Za 6 V V V (Zf V V (Za 7 V V V (Yh (xs := [.tmp 5, .tmp 6]) V V (H) by1 ?_)))))))))))))); intro c7 h7
 exact Za 4 V V V (Ze V V (Xg (Zb (Zx (Zv V V (Xi _) by3 ⟨⟨_, h7, V⟩, V⟩)))))
def clsC (v : En) (s : ByteArray) : Int := if isBr s = true then classI v (tailB s) else -1
theorem coClass_c (v : En) (s : ByteArray) : PCall Tryz.prog 122 [.agg v.cells, .val (.string s)] (.tup [.val (.int .i64 (max (clsC v s) 0)), .val (.bool (decide (0 ≤ clsC v s)))]) := by
 have H := HasPrefix_c s
 have HC := tClass_c v (s.extract 1 s.size)
 have h0 := @isBr_size s
 obtain ⟨r, hr⟩ : ∃ r, clsC v s = r := ⟨_, rfl⟩
 rw [hr]
 unfold clsC tailB at hr
 generalize isBr s = c at *
 generalize classI v (s.extract 1 s.size) = i at *
 obtain ⟨da, cl, ins⟩ := v
 simp only [En.cells] at HC ⊢
 refine Zo Tryz.func122 V (by kernel_rfl) V (Xk V) ?_
 refine Ya (Zh (Zd (Za 2 V V V (Yl (cs' := [_, _, _]) V V V V (Za 4 V V V (Ze V V (Za 5 V V V (Ze V V (Xg (Zb (Zh (Zh (Zd (Za 6 V V V (Zf V V (Za 7 V V V (Yh (xs := [.tmp 6, .const (.string ⟨#[123]⟩)]) V V (H) by1 ?_))))))))))))))))); intro c7 h7
 refine Za 8 V V V (Yn V V ?_); intro c8 h8
 try replace h8 := nott h8 h7
 refine Xg (Zb ?_)
 rcases Zj h8 with ⟨rfl, g8⟩ | ⟨rfl, g8⟩
 ·refine Zp V (Yb (Zb (Zh ?_)))
  rw [if_pos (Classical.not_not.1 g8)] at hr
  subst hr
  have h1 := h0 (Classical.not_not.1 g8)
  refine c_drawn tmix V (Zm 9 V V (Zn (cs' := [_, _, _]) V ta_41 V V V ⟨V, V⟩) ?_)
  refine Zm 10 V V (Zf V V ⟨V, V⟩) ?_
  refine Zm 11 rfl rfl (op_substrl (i := 1) rfl tu_9 rfl rfl (by first | rfl | omega) (by first | omega | assumption) ⟨rfl, rfl⟩) ?_
  refine Zm 12 V V (Yd (xs := [.tmp 9, .tmp 11]) V V (HC) by1 ⟨V, V⟩) ?_
  refine Zm 13 V V (Ym V V V ⟨V, V⟩) ?_
  refine Zm 14 V V (Ym V V V ⟨V, V⟩) ?_
  refine Zm 4 V V (Ze V V ⟨V, V⟩) ?_
  refine Zm 5 V V (Ze V V ⟨V, V⟩) ?_
  show AGo _ _ _ _ _ _ _
  refine Zb (Zx ?_)
  exact out_tt V V V (Xi _) (Xh _) ⟨V, V⟩
 refine Zq V (Zh (Zd (Za 4 V V V (Ze V V (Za 5 V V V (Ze V V (Xg (Zb (Zx ?_)))))))))
 rw [if_neg g8] at hr
 subst hr
 exact out_tt V V V (Xi _) (Xh _) ⟨V, V⟩
theorem IxF_Da (p : Da → Bool) (g : FuncId) (fs cs : List AV) (l : List Da) (hg : ∀ x ∈ l, BCall Tryz.prog g (fs ++ [.agg x.cells] ++ cs) (p x = true)) : PCall Tryz.prog 202 [.seq 5 (Da.cellss l), .clo (.func g) fs cs] (.val (.int .i64 (findI p l 0))) := by
 have hl := Da.cellss_len l
 obtain ⟨r, hr⟩ : ∃ r, findI p l 0 = r := ⟨_, rfl⟩
 rw [hr]
 refine Zo Tryz.func202 V (by kernel_rfl) V (Xk V) ?_
 refine Ya ?_
 refine c_lens (t := 0) V (.seq _ _) (fun hmax => ?_)
 refine Zh (Zd (Za 4 V V V (Ze V V (Xg (Zb (Zh (Zh (Zd (Za 6 V V V (Zf V V ?_))))))))))
 refine Za 7 V V V (Yi V tu_37 V (.seq _ _) (fun n7 => ?_))
 refine Za 8 V V V (Zf V V (Xg (Zb (Yc ?_))))
 apply Xf [2, 3, 4, 5, 6, 8, 9, 10, 11, 12, 13, 14, 15, 16, 17, 18] (σ := Nat) (fun zz => match zz with | i => [(8, .val (.int .i64 i))]) (fun zz => match zz with | i => i ≤ l.length ∧ findI p (l.drop i) i = r) (fun zz => match zz with | i => l.length - i) (0)
 ·repeat' (first | exact Xn | apply Xl rfl | apply Xm rfl)
 ·exact ⟨by omega, hr⟩
 ·exact by4
 rintro i hI
 try dsimp only [List.cons_append, List.nil_append] at hI ⊢
 obtain ⟨hi, hu⟩ := hI
 refine Zh (Zd (Za 9 V V V (Yr V V V ?_))); intro c9 h9
 refine Xg (Zb (Zh ?_))
 rcases Zj h9 with ⟨rfl, g9⟩ | ⟨rfl, g9⟩
 ·refine Zp V (Yu (Yw (x_lp (Yv (Zb (Zh (Zd (Za 4 V V V (Ze V V (Xg (Zb (Zx ?_))))))))))))
  rw [List.drop_eq_nil_of_le (by omega), findI] at hu; exact Zv rfl rfl (Xi _) by3 ⟨by rw [← hu], rfl⟩
 refine Zq V (Yb (Zb (Zh (Yc (Zh ?_)))))
 obtain ⟨⟨ys, yps, ycs, ydv, yp⟩, hxy⟩ := Yj (l := l) (i := i) by6
 have hcy := Da.cellss_get hxy
 have hmy := Xp hxy
 refine Zd (Za 10 V V V (Zf V V (Za 5 V V V (Ze V V (Xg (Zb (Zh ?_)))))))
 rw [drop_at hxy, findI] at hu
 have HG := hg _ hmy
 refine Zd (Za 11 V V V (Zf V V (Za 12 V V V (Zf V V (Za 13 V V V (Zf V V (Za 14 V V V (Zz V te_37 V (.seq _ _) V V (hcy) (Za 15 V V V (Zn (cs' := [_, _, _, _, _]) V ta_114 V V V (Za 16 V V V (op_callvb (xs := [.tmp 15]) V V V (HG) by1 ?_)))))))))))); intro c16 h16
 refine Xg (Zb ?_)
 rcases Zj h16 with ⟨rfl, g16⟩ | ⟨rfl, g16⟩
 ·refine Zp V (Yb (Yq (Zb (Zd (Za 18 V V V (Yp V V V (Xo _ (by omega)) ?_))))))
  refine Za 8 V V V (Zf V V (Xg (go_lp ?_)))
  rw [if_neg g16] at hu; exact ⟨i + 1, ⟨by omega, hu⟩, by show l.length - (i + 1) < l.length - i; omega, by4, by3⟩
 refine Zq V (Zh (Zd (Za 17 V V V (Zf V V (Za 4 V V V (Ze V V (Xg (Zb (Zx ?_)))))))))
 rw [if_pos g16] at hu; exact Zv rfl rfl (Xi _) by3 ⟨by rw [hu], rfl⟩
theorem fnd_Da (p : Da → Bool) (g : FuncId) (fs cs : List AV) (l : List Da) (hg : ∀ x ∈ l, BCall Tryz.prog g (fs ++ [.agg x.cells] ++ cs) (p x = true)) : PCall Tryz.prog 172 [.seq 5 (Da.cellss l), .clo (.func g) fs cs] (.tup [.val (.int .i64 (max (findI p l 0) 0)), .val (.bool (decide (0 ≤ findI p l 0)))]) := by
 have H := IxF_Da p g fs cs l hg
 refine Zo Tryz.func172 V (by kernel_rfl) V (Xk V) ?_
 refine Ya (Zh (Zd (Za 4 V V V (Ze V V (Za 5 V V V (Ze V V (Xg (Zb (Zh (Zd (Za 7 V V V (Zf V V (Za 8 V V V (Zf V V (Za 9 V V V (Yd (xs := [.tmp 7, .tmp 8]) V V (H) by1 ?_))))))))))))))))
 refine Za 6 V V V (Ze V V (Xg (Zb (Zh (Zd (Za 10 V V V (Zf V V (Za 11 V V V (op_max V V V (Za 12 V V V (Zf V V (Za 13 V V V (op_geq V V V ?_))))))))))))); intro c13 h13
 refine Za 4 V V V (Ze V V (Za 5 V V V (Ze V V (Xg (Zb (Zx ?_))))))
 exact out_tt V V V (Le.tup (Les.cons (Xi _) (Les.cons (Le.beq (by cases c13 <;> simp_all)) (Les.refl _)))) by3 ⟨V, V⟩
theorem Arity1_c (x : Da) (s : ByteArray) : BCall Tryz.prog 173 [.agg x.cells, .cptr [.val (.string s)]] (sameB x.s s = true) := by
 obtain ⟨ds, ps, cs, dv, p⟩ := x
 rw [show (sameB (Da.mk ds ps cs dv p).s s = true) = (ds = s) from propext sameB_iff]
 refine Zo Tryz.func173 V (by kernel_rfl) V (Xk V) ?_
 refine Ya (Zh (Zd (Za 2 V V V (Yl (cs' := [_, _, _, _, _]) V V V V (Za 3 V V V (Ze V V (Xg (Zb (Zh (Zd (Za 4 V V V (Zg V tf_114_0 V V (Za 5 V V V (Zk V ta_9 V V (Za 6 V V V (Zk V ta_9 V V (Za 7 V V V (op_seql V V V ?_)))))))))))))))))); intro c7 h7
 exact Za 3 V V V (Ze V V (Xg (Zb (Zx (Zv V V (Xi _) (Xh _) ⟨⟨_, h7, V⟩, V⟩)))))
def baseA (s : ByteArray) : Int := if sameB s kIntT = true ∨ sameB s kStrT = true then 0 else if sameB s kRefT = true then 1 else if sameB s kArrow = true then 2 else -1
theorem tBase_c (s : ByteArray) : PCall Tryz.prog 171 [.val (.string s)] (.tup [.val (.int .i64 (max (baseA s) 0)), .val (.bool (decide (0 ≤ baseA s)))]) := by
 obtain ⟨r, hr⟩ : ∃ r, baseA s = r := ⟨_, rfl⟩
 rw [hr]
 unfold baseA at hr
 simp only [sameB_iff] at hr
 refine Zo Tryz.func171 V (by kernel_rfl) V (Xk V) ?_
 refine Ya (Zh (Zd (Za 2 V V V (Ze V V (Za 3 V V V (Ze V V (Xg (Zb (Zh (Zh (Zd (Za 4 V V V (Zf V V (Xg (Zb (Yc (Zh (Zh (Zd (Za 6 V V V (op_seql V V V ?_))))))))))))))))))))); intro c6 h6
 refine Za 5 V V V (Ze V V (Xg (Zb ?_)))
 rcases Zj h6 with ⟨rfl, g6⟩ | ⟨rfl, g6⟩
 ·refine Zp V (Zd (Za 7 V V V (op_seql V V V ?_))); intro c7 h7
  refine Za 5 V V V (Ze V V (Xg (Zb ?_)))
  rcases Zj h7 with ⟨rfl, g7⟩ | ⟨rfl, g7⟩
  ·refine Zp V (Zh (Zd (Za 9 V V V (op_seql V V V ?_)))); intro c9 h9
   refine Za 8 V V V (Ze V V (Xg (Zb ?_)))
   rcases Zj h9 with ⟨rfl, g9⟩ | ⟨rfl, g9⟩
   ·refine Zp V (Zh (Zd (Za 11 V V V (op_seql V V V ?_)))); intro c11 h11
    refine Za 10 V V V (Ze V V (Xg (Zb ?_)))
    rcases Zj h11 with ⟨rfl, g11⟩ | ⟨rfl, g11⟩
    ·refine Zp V (Yb (Yq (Zb (Zh (Zd (Za 2 V V V (Ze V V (Za 3 V V V (Ze V V (Xg (Zb (Zx ?_))))))))))))
     rw [if_neg (fun q => q.elim g6 g7), if_neg g9, if_neg g11] at hr
     subst hr
     exact out_tt V V V (Xi _) by3 ⟨V, V⟩
    refine Zq V (Zh (Zd (Za 2 V V V (Ze V V (Za 3 V V V (Ze V V (Xg (Zb (Zx ?_)))))))))
    rw [if_neg (fun q => q.elim g6 g7), if_neg g9, if_pos g11] at hr
    subst hr
    exact out_tt V V V (Xi _) by3 ⟨V, V⟩
   refine Zq V (Zh (Zd (Za 2 V V V (Ze V V (Za 3 V V V (Ze V V (Xg (Zb (Zx ?_)))))))))
   rw [if_neg (fun q => q.elim g6 g7), if_pos g9] at hr
   subst hr
   exact out_tt V V V (Xi _) by3 ⟨V, V⟩
  refine Zq V (Zh (Zd (Za 2 V V V (Ze V V (Za 3 V V V (Ze V V (Xg (Zb (Zx ?_)))))))))
  have hb : s = kIntT ∨ s = kStrT := by first | exact .inl g6 | exact .inr g7
  rw [if_pos hb] at hr
  subst hr
  exact out_tt V V V (Xi _) by3 ⟨V, V⟩
 refine Zq V (Yb (Zb (Zq V (Zh (Zd (Za 2 V V V (Ze V V (Za 3 V V V (Ze V V (Xg (Zb (Zx ?_))))))))))))
 have hb : s = kIntT ∨ s = kStrT := by first | exact .inl g6 | exact .inr g7
 rw [if_pos hb] at hr
 subst hr
 exact out_tt V V V (Xi _) by3 ⟨V, V⟩
theorem arityD_find (s : ByteArray) : ∀ (l : List Da) (i : Nat), (findI (fun (d : Da) => sameB d.s s) l i < 0 → arityD s l = -1) ∧ (∀ k : Nat, findI (fun (d : Da) => sameB d.s s) l i = ((i + k : Nat) : Int) → ∃ d, l[k]? = some d ∧ arityD s l = d.ps.length)
 | [], i => ⟨fun _ => rfl, fun k h => by rw [findI] at h; omega⟩
 | d :: l, i => by
  rw [findI, arityD]
  by_cases h : sameB d.s s = true
  ·rw [if_pos h, if_pos h]
   exact ⟨fun q => by omega, fun k q => ⟨d, by rw [show k = 0 by omega]; rfl, V⟩⟩
  rw [if_neg h, if_neg h]
  obtain ⟨h1, h2⟩ := arityD_find s l (i + 1)
  refine ⟨h1, fun k q => ?_⟩
  have := findI_cases (fun (d : Da) => sameB d.s s) l (i + 1)
  obtain ⟨k, rfl⟩ : ∃ k', k = k' + 1 := ⟨k - 1, by omega⟩
  obtain ⟨x, h3, h4⟩ := h2 k (by rw [q]; omega)
  exact ⟨x, by simpa using h3, h4⟩
theorem arityR_split (v : En) (s : ByteArray) : arityR v s = if 0 ≤ baseA s then baseA s else arityD s v.da := by
 unfold arityR baseA
 split
 ·rfl
 split
 ·rfl
 split <;> rfl
theorem tArity_c (v : En) (s : ByteArray) : PCall Tryz.prog 121 [.agg v.cells, .val (.string s)] (.tup [.val (.int .i64 (max (arityR v s) 0)), .val (.bool (decide (0 ≤ arityR v s)))]) := by
 have HB := tBase_c s
 have HF := fnd_Da (fun d => sameB d.s s) 173 [] [.cptr [.val (.string s)]] v.da (fun x _ => Arity1_c x s)
 obtain ⟨h1, h2⟩ := arityD_find s v.da 0
 obtain ⟨r, hr⟩ : ∃ r, arityR v s = r := ⟨_, rfl⟩
 rw [hr]
 rw [arityR_split] at hr
 generalize baseA s = ba at *
 have hfl := findI_lt (fun (d : Da) => sameB d.s s) v.da 0
 generalize findI (fun (d : Da) => sameB d.s s) v.da 0 = fi at *
 obtain ⟨c14, hc14⟩ : ∃ c, decide (0 ≤ ba) = c := ⟨_, rfl⟩
 obtain ⟨c23, hc23⟩ : ∃ c, decide (0 ≤ fi) = c := ⟨_, rfl⟩
 rw [hc14] at HB
 rw [hc23] at HF
 obtain ⟨da, cl, ins⟩ := v
 have hld := Da.cellss_len da
 simp only [En.cells, En.da] at *
 refine Zo Tryz.func121 V (by kernel_rfl) V (Xk V) ?_
 refine Ya (Zh (Zd (Za 2 V V V (Yl (cs' := [_, _, _]) V V V V (Za 3 V V V (Yl (cs' := [_]) V V V V (Za 4 V V V (Ze V V (Za 5 V V V (Ze V V (Xg (Zb (Zh (Zh (Zd (Za 11 V V V (Zk V ta_9 V V (Za 12 V V V (Yd (xs := [.tmp 11]) V V (HB) by1 ?_)))))))))))))))))))
 refine Za 10 V V V (Zf V V (Za 13 V V V (Ym V V V (Za 14 V V V (Ym V V V (Za 6 V V V (Ze V V (Za 7 V V V (Ze V V (Xg (Zb (Zh (Zd (Za 15 V V V (Zf V V (Xg (Zb ?_)))))))))))))))))
 rcases c14 with _ | _
 ·refine Zp V (Yb (Zb (Zh ?_)))
  have hb : ¬ 0 ≤ ba := by simpa using hc14
  rw [if_neg hb] at hr
  refine Zd (Za 18 V V V (Zg V tf_41_0 V V (Za 19 V V V (Zk V ta_37 V V (Za 20 V V V (Xb (fs := []) (cs := [.tmp 3]) V V V (Za 21 V V V (Yd (xs := [.tmp 19, .tmp 20]) V V (HF) by1 ?_))))))))
  refine Za 17 V V V (Zf V V (Za 22 V V V (Ym V V V (Za 23 V V V (Ym V V V (Za 8 V V V (Ze V V (Za 9 V V V (Ze V V (Xg (Zb (Zh (Zh (Zd (Za 24 V V V (Zf V V (Za 25 V V V (Yn V V ?_)))))))))))))))))); intro c25 h25
  try replace h25 := nott h25 h23
  refine Xg (Zb ?_)
  rcases Zj h25 with ⟨rfl, g25⟩ | ⟨rfl, g25⟩
  ·refine Zp V (Yb (Zb (Zh ?_)))
   have hf : 0 ≤ fi := by simpa [← hc23] using g25
   obtain ⟨⟨qs, qps, qcs, qdv, qp⟩, hq, hqa⟩ := h2 fi.toNat (by omega)
   have hcq := Da.cellss_get hq
   have hqs := strs_len qps
   rw [hqa] at hr
   subst hr
   rw [show max fi 0 = (fi.toNat : Int) by omega]
   simp only [Da.ps]
   refine Zd (Za 26 V V V (Zg V tf_41_0 V V (Za 27 V V V (Zk V ta_37 V V (Za 28 V V V (Zf V V (Za 29 V V V (Zz V te_37 V (.seq _ _) V V (hcq) (Za 30 V V V (Zg V tf_114_1 V V (Za 31 V V V (Zk V ta_44 V V ?_))))))))))))
   refine Za 32 V V V (Yi V tu_44 V (.seq _ _) (fun n32 => ?_))
   refine Za 4 V V V (Ze V V (Za 5 V V V (Ze V V (Xg (Zb (Zx ?_))))))
   exact out_tt V V V (Le.tup (Les.cons (Le.ieq (by omega)) (Les.cons (Le.beq (by simp)) (Les.refl _)))) (Xh _) ⟨V, V⟩
  refine Zq V (Zh (Zd (Za 4 V V V (Ze V V (Za 5 V V V (Ze V V (Xg (Zb (Zx ?_)))))))))
  have hf : ¬ 0 ≤ fi := by simpa [← hc23] using g25
  rw [h1 (by omega)] at hr
  subst hr
  exact out_tt V V V (Xi _) (Xh _) ⟨V, V⟩
 refine Zq V (Zh (Zd (Za 16 V V V (Zf V V (Za 4 V V V (Ze V V (Za 5 V V V (Ze V V (Xg (Zb (Zx ?_)))))))))))
 have hb : 0 ≤ ba := by simpa using hc14
 rw [if_pos hb] at hr
 subst hr
 exact out_tt V V V (Le.tup (Les.cons (Xi _) (Les.cons (Le.beq (by simpa using hb)) (Les.refl _)))) (Xh _) ⟨V, V⟩
theorem rightC_iff {v : En} {vs : List ByteArray} {k n : Int} {s : ByteArray} {ks : List Ty} : rightC v vs (.mk k s n ks) = true ↔ ((k = 1 ∧ s ∈ vs) ∨ (k = 3 ∧ arC v s = ks.length)) ∧ ks.all (rightC v vs) = true := by
 rw [rightC, rightCs_all, Bool.and_eq_true]
 by_cases h1 : k = 1
 ·subst h1; simp [hasB_iff]
 rw [if_neg h1]
 by_cases h3 : k = 3
 ·subst h3; simp
 rw [if_neg h3]; simp [h1, h3]
theorem arC_split (v : En) (s : ByteArray) : arC v s = if 0 ≤ arityR v s then arityR v s else if 0 ≤ clsC v s then 1 else -1 := by
 unfold arC clsC
 by_cases h : isBr s = true
 ·rw [if_pos h]; simp [h]
 rw [if_neg h]; simp [h]
theorem coRight1_c (v : En) (vs : List ByteArray) (x : Ty) (h : BCall Tryz.prog 74 [.agg v.cells, .seq 1 (strs vs), .agg x.cells] (rightC v vs x = true)) : BCall Tryz.prog 123 [.agg x.cells, .cptr v.cells, .cptr [.seq 1 (strs vs)]] (rightC v vs x = true) := by
 generalize (rightC v vs x = true) = q at *
 obtain ⟨k, s, n, ks⟩ := x
 obtain ⟨da, cl, ins⟩ := v
 simp only [En.cells] at *
 refine Zo Tryz.func123 V (by kernel_rfl) V (Xk V) ?_
 refine Ya (Zh (Zd (Za 3 V V V (Yl (cs' := [_, _, _, _]) V V V V (Za 4 V V V (Ze V V (Xg (Zb (Zh (Zd (Za 5 V V V (Zn (cs' := [_, _, _]) V ta_41 V V V (Za 6 V V V (Zk V ta_44 V V (Za 7 V V V (Zn (cs' := [_, _, _, _]) V Ye V V V (Za 8 V V V (Yh (xs := [.tmp 5, .tmp 6, .tmp 7]) V V (h) by1 ?_)))))))))))))))))); intro c8 h8
 exact Za 4 V V V (Ze V V (Xg (Zb (Zx (Zv V V (Xi _) (Xh _) ⟨⟨_, h8, V⟩, V⟩)))))
theorem coRight_c (v : En) (vs : List ByteArray) (t : Ty) : BCall Tryz.prog 74 [.agg v.cells, .seq 1 (strs vs), .agg t.cells] (rightC v vs t = true) := by
 obtain ⟨k, s, n, ks⟩ := t
 have HA := all_Ty (rightC v vs) 123 [] [.cptr v.cells, .cptr [.seq 1 (strs vs)]] ks (fun x hx => coRight1_c v vs x (coRight_c v vs x))
 have HS := ContainsS_c vs s
 have HN := tArity_c v s
 have HC := coClass_c v s
 have hr := rightC_iff (v := v) (vs := vs) (k := k) (s := s) (n := n) (ks := ks)
 rw [arC_split] at hr
 generalize (rightC v vs (.mk k s n ks) = true) = R at *
 generalize (ks.all (rightC v vs) = true) = A at *
 generalize arityR v s = ar at *
 generalize clsC v s = cc at *
 obtain ⟨c26, hc26⟩ : ∃ c, decide (0 ≤ ar) = c := ⟨_, rfl⟩
 obtain ⟨c35, hc35⟩ : ∃ c, decide (0 ≤ cc) = c := ⟨_, rfl⟩
 rw [hc26] at HN
 rw [hc35] at HC
 have hlk := Ty.cellss_len ks
 obtain ⟨da, cl, ins⟩ := v
 simp only [En.cells] at *
 refine Zo Tryz.func74 V (by kernel_rfl) V (Xk V) ?_
 refine Ya (Zh (Zd (Za 3 V V V (Yl (cs' := [_, _, _]) V V V V (Za 4 V V V (Yl (cs' := [_]) V V V V (Za 5 V V V (Yl (cs' := [_, _, _, _]) V V V V (Za 6 V V V (Ze V V (Xg (Zb (Zh (Zh (Zd (Za 9 V V V (Zg V tf_24_0 V V (Za 10 V V V (Zk V ta_3 V V (Xg (Zb (Yc (Zh (Zd (Za 12 V V V (op_eql V V V ?_)))))))))))))))))))))))))); intro c12 h12
 refine Za 11 V V V (Ze V V (Xg (Zb ?_)))
 rcases Zj h12 with ⟨rfl, g12⟩ | ⟨rfl, g12⟩
 ·refine Zp V (Zh (Zd (Za 19 V V V (op_eql V V V ?_)))); intro c19 h19
  refine Za 18 V V V (Ze V V (Xg (Zb ?_)))
  rcases Zj h19 with ⟨rfl, g19⟩ | ⟨rfl, g19⟩
  ·refine Zp V (Zh (Zd (Za 6 V V V (Ze V V (Xg (Zb (Zx ?_)))))))
   exact Zv V V (Xi _) (Xh _) ⟨⟨_, iff_f (fun q => by have := (hr.1 q).1; omega), V⟩, V⟩
  refine Zq V (Zh (Zd (Za 21 V V V (Zn (cs' := [_, _, _]) V ta_41 V V V (Za 22 V V V (Zg V tf_24_1 V V (Za 23 V V V (Zk V ta_9 V V (Za 24 V V V (Yd (xs := [.tmp 21, .tmp 23]) V V (HN) by1 ?_))))))))))
  refine Za 20 V V V (Zf V V (Za 25 V V V (Ym V V V (Za 26 V V V (Ym V V V (Za 7 V V V (Ze V V (Za 8 V V V (Ze V V (Xg (Zb (Zh (Zh (Zd (Za 27 V V V (Zf V V (Za 28 V V V (Yn V V ?_)))))))))))))))))); intro c28 h28
  try replace h28 := nott h28 h26
  refine Xg (Zb ?_)
  rcases Zj h28 with ⟨rfl, g28⟩ | ⟨rfl, g28⟩
  ·refine Zp V (Yb (Zb (Zh (Xe 44 (¬ ((if 0 ≤ ar then ar else if 0 ≤ cc then (1 : Int) else -1) = ks.length)) ?_ _ _ V ?_))))
   ·skip
    refine Za 36 V V V (Zf V V (Za 37 V V V (Yn V V ?_))); intro c37 h37
    try replace h37 := nott h37 h35
    refine Za 38 V V V (Zf V V ?_)
    rcases Zj h37 with ⟨rfl, g37⟩ | ⟨rfl, g37⟩
    ·skip
     refine Zi 39 V V V V V (Zf V V (Zi 40 V V V V V (Zg V Xa V V (Zi 41 V V V V V (Zk V Xc V V ?_)))))
     refine Zi 42 V V V V V (Yi V tu_22 V (.seq _ _) (fun n42 => ?_))
     refine Zi 43 V V V V V (Xd V V V ?_); intro c43 h43
     refine Za 44 V V V (Zl V V V (Xg (Xj V ?_ by5 by3)))
     clear HA HS HN HC hr; first | grind | (simp_all; done)
    skip
    refine Zc 39 V V V V V (Zc 40 V V V V V (Zc 41 V V V V V (Zc 42 V V V V V (Zc 43 V V V V V (Za 44 V V V (Zl V V V (Xg (Xj V ?_ by5 by3))))))))
    clear HA HS HN HC hr; first | grind | (simp_all; done)
   intro c44 h44
   refine Zb ?_
   rcases Zj h44 with ⟨rfl, g44⟩ | ⟨rfl, g44⟩
   ·refine Zp V (Yb (Yq (Zb (Zh (Zd (Za 45 V V V (Zg V Xa V V (Za 46 V V V (Zk V Xc V V (Za 47 V V V (Xb (fs := []) (cs := [.tmp 3, .tmp 4]) V V V (Za 48 V V V (Yh (xs := [.tmp 46, .tmp 47]) V V (HA) by1 ?_))))))))))))); intro c48 h48
    refine Za 6 V V V (Ze V V (Xg (Zb (Zx ?_))))
    exact Zv V V (Xi _) (Xh _) ⟨⟨_, h48.trans ⟨fun q => hr.2 ⟨by first | exact .inl ⟨g12, Classical.not_not.1 g17⟩ | exact .inr ⟨g19, Classical.not_not.1 g44⟩, q⟩, fun q => (hr.1 q).2⟩, V⟩, V⟩
   refine Zq V (Zh (Zd (Za 6 V V V (Ze V V (Xg (Zb (Zx ?_)))))))
   exact Zv V V (Xi _) (Xh _) ⟨⟨_, iff_f (fun q => (hr.1 q).1.elim (fun h => by omega) (fun h => g44 h.2)), V⟩, V⟩
  refine Zq V (Zh (Zd (Za 30 V V V (Zn (cs' := [_, _, _]) V ta_41 V V V (Za 31 V V V (Zg V tf_24_1 V V (Za 32 V V V (Zk V ta_9 V V (Za 33 V V V (Yd (xs := [.tmp 30, .tmp 32]) V V (HC) by1 ?_))))))))))
  refine Za 29 V V V (Zf V V (Za 34 V V V (Ym V V V (Za 35 V V V (Ym V V V (Za 8 V V V (Ze V V (Xg (Zb (Zd (Za 7 V V V (Ze V V (Xg (Zb (Zh (Xe 44 (¬ ((if 0 ≤ ar then ar else if 0 ≤ cc then (1 : Int) else -1) = ks.length)) ?_ _ _ V ?_))))))))))))))))
  ·skip
   refine Za 36 V V V (Zf V V (Za 37 V V V (Yn V V ?_))); intro c37 h37
   try replace h37 := nott h37 h35
   refine Za 38 V V V (Zf V V ?_)
   rcases Zj h37 with ⟨rfl, g37⟩ | ⟨rfl, g37⟩
   ·skip
    refine Zi 39 V V V V V (Zf V V (Zi 40 V V V V V (Zg V Xa V V (Zi 41 V V V V V (Zk V Xc V V ?_)))))
    refine Zi 42 V V V V V (Yi V tu_22 V (.seq _ _) (fun n42 => ?_))
    refine Zi 43 V V V V V (Xd V V V ?_); intro c43 h43
    refine Za 44 V V V (Zl V V V (Xg (Xj V ?_ by5 by3)))
    clear HA HS HN HC hr; first | grind | (simp_all; done)
   skip
   refine Zc 39 V V V V V (Zc 40 V V V V V (Zc 41 V V V V V (Zc 42 V V V V V (Zc 43 V V V V V (Za 44 V V V (Zl V V V (Xg (Xj V ?_ by5 by3))))))))
   clear HA HS HN HC hr; first | grind | (simp_all; done)
  intro c44 h44
  refine Zb ?_
  rcases Zj h44 with ⟨rfl, g44⟩ | ⟨rfl, g44⟩
  ·refine Zp V (Yb (Yq (Zb (Zh (Zd (Za 45 V V V (Zg V Xa V V (Za 46 V V V (Zk V Xc V V (Za 47 V V V (Xb (fs := []) (cs := [.tmp 3, .tmp 4]) V V V (Za 48 V V V (Yh (xs := [.tmp 46, .tmp 47]) V V (HA) by1 ?_))))))))))))); intro c48 h48
   refine Za 6 V V V (Ze V V (Xg (Zb (Zx ?_))))
   exact Zv V V (Xi _) (Xh _) ⟨⟨_, h48.trans ⟨fun q => hr.2 ⟨by first | exact .inl ⟨g12, Classical.not_not.1 g17⟩ | exact .inr ⟨g19, Classical.not_not.1 g44⟩, q⟩, fun q => (hr.1 q).2⟩, V⟩, V⟩
  refine Zq V (Zh (Zd (Za 6 V V V (Ze V V (Xg (Zb (Zx ?_)))))))
  exact Zv V V (Xi _) (Xh _) ⟨⟨_, iff_f (fun q => (hr.1 q).1.elim (fun h => by omega) (fun h => g44 h.2)), V⟩, V⟩
 refine Zq V (Zh (Zd (Za 13 V V V (Zk V ta_44 V V (Za 14 V V V (Zg V tf_24_1 V V (Za 15 V V V (Zk V ta_9 V V (Za 16 V V V (Yh (xs := [.tmp 13, .tmp 15]) V V (HS) by1 ?_)))))))))); intro c16 h16
 refine Za 17 V V V (Yn V V ?_); intro c17 h17
 try replace h17 := nott h17 h16
 refine Xg (Zb ?_)
 rcases Zj h17 with ⟨rfl, g17⟩ | ⟨rfl, g17⟩
 ·refine Zp V (Yb (Yq (Zb (Zh (Zd (Za 45 V V V (Zg V Xa V V (Za 46 V V V (Zk V Xc V V (Za 47 V V V (Xb (fs := []) (cs := [.tmp 3, .tmp 4]) V V V (Za 48 V V V (Yh (xs := [.tmp 46, .tmp 47]) V V (HA) by1 ?_))))))))))))); intro c48 h48
  refine Za 6 V V V (Ze V V (Xg (Zb (Zx ?_))))
  exact Zv V V (Xi _) (Xh _) ⟨⟨_, h48.trans ⟨fun q => hr.2 ⟨by first | exact .inl ⟨g12, Classical.not_not.1 g17⟩ | exact .inr ⟨g19, Classical.not_not.1 g44⟩, q⟩, fun q => (hr.1 q).2⟩, V⟩, V⟩
 refine Zq V (Zh (Zd (Za 6 V V V (Ze V V (Xg (Zb (Zx ?_)))))))
 exact Zv V V (Xi _) (Xh _) ⟨⟨_, iff_f (fun q => (hr.1 q).1.elim (fun h => g17 h.2) (fun h => by omega)), V⟩, V⟩
termination_by SizeOf.sizeOf t
decreasing_by
 have := List.sizeOf_lt_of_mem hx
 simp; omega
inductive Sc where
 | mk (vs : List ByteArray) (ps : List Pr) (t : Ty)
def Sc.cells : Sc → List AV
 | .mk vs ps t => .seq 1 (strs vs) :: .seq 5 (Pr.cellss ps) :: t.cells
def Sc.vs : Sc → List ByteArray | .mk vs _ _ => vs
def Sc.ps : Sc → List Pr | .mk _ ps _ => ps
def Sc.t : Sc → Ty | .mk _ _ t => t
def Sc.cellss (l : List Sc) : List (List AV) := l.map Sc.cells
theorem Sc.cellss_map (l : List Sc) : Sc.cellss l = l.map Sc.cells := rfl
theorem Sc.cellss_len (l : List Sc) : (Sc.cellss l).length = l.length := by simp [Sc.cellss]
theorem Sc.cellss_get {l : List Sc} {i : Nat} {x : Sc} (h : l[i]? = some x) : (Sc.cellss l)[i]? = some x.cells := by simp [Sc.cellss, h]
theorem Sc.cells_len (x : Sc) : x.cells.length = 6 := by
 obtain ⟨xvs, xps, ⟨xtk, xts, xtn, xtl⟩⟩ := x
 rfl
def Sc.cellsss (l : List (List Sc)) : List (List AV) := l.map fun x => [.seq 6 (Sc.cellss x)]
def Sc.Lim : Sc → Prop
 | .mk vs ps t => (vs.length ≤ 140737488355328) ∧ (ps.length ≤ 140737488355328 ∧ ∀ x ∈ ps, x.Lim) ∧ (t.Lim)
inductive Pm where
 | mk (s : ByteArray) (op : Int) (n : Int) (sc : Sc)
def Pm.cells : Pm → List AV
 | .mk s op n sc => .val (.string s) :: .val (.int .i64 op) :: .val (.int .i64 n) :: sc.cells
def Pm.s : Pm → ByteArray | .mk s _ _ _ => s
def Pm.op : Pm → Int | .mk _ op _ _ => op
def Pm.n : Pm → Int | .mk _ _ n _ => n
def Pm.sc : Pm → Sc | .mk _ _ _ sc => sc
def Pm.cellss (l : List Pm) : List (List AV) := l.map Pm.cells
theorem Pm.cellss_map (l : List Pm) : Pm.cellss l = l.map Pm.cells := rfl
theorem Pm.cellss_len (l : List Pm) : (Pm.cellss l).length = l.length := by simp [Pm.cellss]
theorem Pm.cellss_get {l : List Pm} {i : Nat} {x : Pm} (h : l[i]? = some x) : (Pm.cellss l)[i]? = some x.cells := by simp [Pm.cellss, h]
theorem Pm.cells_len (x : Pm) : x.cells.length = 9 := by
 obtain ⟨xs, xop, xn, ⟨xscvs, xscps, ⟨xsctk, xscts, xsctn, xsctl⟩⟩⟩ := x
 rfl
def Pm.cellsss (l : List (List Pm)) : List (List AV) := l.map fun x => [.seq 9 (Pm.cellss x)]
def Pm.Lim : Pm → Prop
 | .mk _ _ _ sc => (sc.Lim)
inductive Ato where
 | mk (k : Int) (n : Int)
def Ato.cells : Ato → List AV
 | .mk k n => .val (.int .i64 k) :: [.val (.int .i64 n)]
def Ato.k : Ato → Int | .mk k _ => k
def Ato.n : Ato → Int | .mk _ n => n
def Ato.cellss (l : List Ato) : List (List AV) := l.map Ato.cells
theorem Ato.cellss_map (l : List Ato) : Ato.cellss l = l.map Ato.cells := rfl
theorem Ato.cellss_len (l : List Ato) : (Ato.cellss l).length = l.length := by simp [Ato.cellss]
theorem Ato.cellss_get {l : List Ato} {i : Nat} {x : Ato} (h : l[i]? = some x) : (Ato.cellss l)[i]? = some x.cells := by simp [Ato.cellss, h]
theorem Ato.cells_len (x : Ato) : x.cells.length = 2 := by
 obtain ⟨xk, xn⟩ := x
 rfl
def Ato.cellsss (l : List (List Ato)) : List (List AV) := l.map fun x => [.seq 2 (Ato.cellss x)]
def Ato.Lim : Ato → Prop
 | .mk k n => (I64 k) ∧ (I64 n)
inductive Is where
 | mk (op : Int) (a : Int) (b : Int) (n : Int) (ar : List Ato) (fs : List Int) (cp : List (List Ato))
def Is.cells : Is → List AV
 | .mk op a b n ar fs cp => .val (.int .i64 op) :: .val (.int .i64 a) :: .val (.int .i64 b) :: .val (.int .i64 n) :: .seq 2 (Ato.cellss ar) :: .seq 1 (nums fs) :: [.seq 1 (Ato.cellsss cp)]
def Is.op : Is → Int | .mk op _ _ _ _ _ _ => op
def Is.a : Is → Int | .mk _ a _ _ _ _ _ => a
def Is.b : Is → Int | .mk _ _ b _ _ _ _ => b
def Is.n : Is → Int | .mk _ _ _ n _ _ _ => n
def Is.ar : Is → List Ato | .mk _ _ _ _ ar _ _ => ar
def Is.fs : Is → List Int | .mk _ _ _ _ _ fs _ => fs
def Is.cp : Is → List (List Ato) | .mk _ _ _ _ _ _ cp => cp
def Is.cellss (l : List Is) : List (List AV) := l.map Is.cells
theorem Is.cellss_map (l : List Is) : Is.cellss l = l.map Is.cells := rfl
theorem Is.cellss_len (l : List Is) : (Is.cellss l).length = l.length := by simp [Is.cellss]
theorem Is.cellss_get {l : List Is} {i : Nat} {x : Is} (h : l[i]? = some x) : (Is.cellss l)[i]? = some x.cells := by simp [Is.cellss, h]
theorem Is.cells_len (x : Is) : x.cells.length = 7 := by
 obtain ⟨xop, xa, xb, xn, xar, xfs, xcp⟩ := x
 rfl
def Is.cellsss (l : List (List Is)) : List (List AV) := l.map fun x => [.seq 7 (Is.cellss x)]
def Is.Lim : Is → Prop
 | .mk op a b n ar fs cp => (I64 op) ∧ (I64 a) ∧ (I64 b) ∧ (I64 n) ∧ (ar.length ≤ 140737488355328 ∧ ∀ x ∈ ar, x.Lim) ∧ (fs.length ≤ 140737488355328 ∧ ∀ x ∈ fs, I64 x) ∧ (cp.length ≤ 140737488355328 ∧ ∀ x ∈ cp, x.length ≤ 140737488355328 ∧ ∀ y ∈ x, y.Lim)
inductive Cf where
 | mk (len : Int) (sl : Int) (cp : Int)
def Cf.cells : Cf → List AV
 | .mk len sl cp => .val (.int .i64 len) :: .val (.int .i64 sl) :: [.val (.int .i64 cp)]
def Cf.len : Cf → Int | .mk len _ _ => len
def Cf.sl : Cf → Int | .mk _ sl _ => sl
def Cf.cp : Cf → Int | .mk _ _ cp => cp
def Cf.cellss (l : List Cf) : List (List AV) := l.map Cf.cells
theorem Cf.cellss_map (l : List Cf) : Cf.cellss l = l.map Cf.cells := rfl
theorem Cf.cellss_len (l : List Cf) : (Cf.cellss l).length = l.length := by simp [Cf.cellss]
theorem Cf.cellss_get {l : List Cf} {i : Nat} {x : Cf} (h : l[i]? = some x) : (Cf.cellss l)[i]? = some x.cells := by simp [Cf.cellss, h]
theorem Cf.cells_len (x : Cf) : x.cells.length = 3 := by
 obtain ⟨xlen, xsl, xcp⟩ := x
 rfl
def Cf.cellsss (l : List (List Cf)) : List (List AV) := l.map fun x => [.seq 3 (Cf.cellss x)]
def Cf.Lim : Cf → Prop
 | .mk len sl cp => (I64 len) ∧ (I64 sl) ∧ (I64 cp)
inductive Cd where
 | mk (is : List Is) (fu : List Cf) (tx : List ByteArray) (gl : Int) (ys : Int) (no : Int)
def Cd.cells : Cd → List AV
 | .mk is fu tx gl ys no => .seq 7 (Is.cellss is) :: .seq 3 (Cf.cellss fu) :: .seq 1 (strs tx) :: .val (.int .i64 gl) :: .val (.int .i64 ys) :: [.val (.int .i64 no)]
def Cd.is : Cd → List Is | .mk is _ _ _ _ _ => is
def Cd.fu : Cd → List Cf | .mk _ fu _ _ _ _ => fu
def Cd.tx : Cd → List ByteArray | .mk _ _ tx _ _ _ => tx
def Cd.gl : Cd → Int | .mk _ _ _ gl _ _ => gl
def Cd.ys : Cd → Int | .mk _ _ _ _ ys _ => ys
def Cd.no : Cd → Int | .mk _ _ _ _ _ no => no
def Cd.cellss (l : List Cd) : List (List AV) := l.map Cd.cells
theorem Cd.cellss_map (l : List Cd) : Cd.cellss l = l.map Cd.cells := rfl
theorem Cd.cellss_len (l : List Cd) : (Cd.cellss l).length = l.length := by simp [Cd.cellss]
theorem Cd.cellss_get {l : List Cd} {i : Nat} {x : Cd} (h : l[i]? = some x) : (Cd.cellss l)[i]? = some x.cells := by simp [Cd.cellss, h]
theorem Cd.cells_len (x : Cd) : x.cells.length = 6 := by
 obtain ⟨xis, xfu, xtx, xgl, xys, xno⟩ := x
 rfl
def Cd.cellsss (l : List (List Cd)) : List (List AV) := l.map fun x => [.seq 6 (Cd.cellss x)]
def Cd.Lim : Cd → Prop
 | .mk is fu tx gl ys no => (is.length ≤ 140737488355328 ∧ ∀ x ∈ is, x.Lim) ∧ (fu.length ≤ 140737488355328 ∧ ∀ x ∈ fu, x.Lim) ∧ (tx.length ≤ 140737488355328) ∧ (I64 gl) ∧ (I64 ys) ∧ (I64 no)
end Go.Proofs.YteepjjgooplljaaGreat
namespace Go.Proofs.YteepjjgooplljaaGreat
abbrev tyZ : Ty := .mk 0 kE 0 []
abbrev co0 : Co := .mk 0 kE 0 tyZ [] [] [] []
abbrev cb0 : Cb := .mk kE [] tyZ co0
abbrev tInt : Ty := .mk 3 kIntT 0 []
def varC (sc : List Cb) (s : ByteArray) (ts : List Ty) : Ty × Bool := match findL s sc with
 | none => (tyZ, false)
 | some b => if b.vs.length = ts.length then (b.t.turn (putO b.vs ts), true) else (tyZ, false)
open Go.RowKit
theorem CloneCb_c (ks : List Cb) (hb : ks.length ≤ 1000000000) : OCall Tryz.prog 147 [.seq 17 (Cb.cellss ks)] 46 17 (Cb.cellss ks) := by
 have hl := Cb.cellss_len ks
 refine Zo Tryz.func147 V (by kernel_rfl) V (Xk V) ?_
 refine Ya (Zh (Zd (Za 2 V V V (Ze V V (Xg (Zb (Zh (Zh (Zd (Za 3 V V V (Zf V V (Za 4 V V V (op_isnil V tu_27 V (.seq _ _) ?_)))))))))))))
 intro c4 h4
 refine Xg (Zb ?_)
 rcases c4 with _ | _
 ·refine Zp V (Yb (Zb (Zh (Zd (Za 5 V V V (op_buildSlice_own (xs := []) el_27 V V V V V V (Xk V) ?_)))))); intro u5
  refine Za 6 V V V (Zf V V ?_)
  refine Za 7 V V V (op_append (i := 0) el_27 V V V V (.seq _ _) (by first | (simp; done) | (simp; omega) | omega) ?_)
  intro u7
  exact Za 2 V V V (Ze V V (Xg (Zb (Zx (Zv V V (Xi _) by3 ⟨_, V, V⟩)))))
 refine Zq V (Zh (Zd (Za 2 V V V (Ze V V (Xg (Zb (c_ownNew 46 17 (Zx ?_))))))))
 rw [h4 rfl]; exact Zv rfl rfl (Le.nilOwn 17) (MLe.refl _) ⟨_, rfl, rfl⟩
theorem coFind_c (sc : List Cb) (vs : List ByteArray) (s : ByteArray) : PCall Tryz.prog 81 [.agg [.seq 17 (Cb.cellss sc), .seq 1 (strs vs)], .val (.string s)] (.tup [.agg ((findL s sc).getD cb0).cells, .val (.bool (findL s sc).isSome)]) := by
 obtain ⟨r, hr⟩ : ∃ r, findL s sc = r := ⟨_, rfl⟩
 rw [hr]
 have hl := Cb.cellss_len sc
 refine Zo Tryz.func81 V (by kernel_rfl) V (Xk V) ?_
 refine Ya ?_
 refine c_lena (t := 0) (j := 0) V V (.seq _ _) (fun hmax => ?_)
 refine Zh (Zd (Za 2 V V V (Yl (cs' := [_, _]) V V V V (Za 4 V V V (Zy (cs' := [_, _, _, _, _, _, _, _, _, _, _, _, _, _, _, _, _]) V tz_46 V V ?_))))); intro b4
 refine Za 5 V V V (Ze V V (Xg (Zb (Zh (Zh (Zd (Za 7 V V V (Zg V tf_89_0 V V (Za 8 V V V (Zk V ta_27 V V ?_))))))))))
 refine Za 9 V V V (Yi V tu_27 V (.seq _ _) (fun n9 => ?_))
 refine Za 10 V V V (op_sub V V V (Xo _ (by omega)) ?_)
 refine Za 6 V V V (Ze V V (Xg (Zb (Yc ?_))))
 apply c_loopk [0, 3, 5, 6, 7, 8, 9, 10, 11, 12, 13, 14, 15, 16, 17, 18, 19, 20, 21, 22, 23, 24, 25, 26, 27] (σ := Nat) (fun zz => match zz with | i => [(6, .val (.int .i64 ((i : Int) - 1)))]) (fun zz => match zz with | i => [.loc b4 [.val (.string kE), .val (.slice none 0 0), .val (.int .i64 0), .val (.string kE), .val (.int .i64 0), .val (.slice none 0 0), .val (.int .i64 0), .val (.string kE), .val (.int .i64 0), .val (.int .i64 0), .val (.string kE), .val (.int .i64 0), .val (.slice none 0 0), .val (.slice none 0 0), .val (.slice none 0 0), .val (.slice none 0 0), .val (.slice none 0 0)]]) (fun zz => match zz with | i => i ≤ sc.length ∧ findL s (sc.take i) = r) (fun zz => match zz with | i => i) (sc.length)
 ·repeat' (first | exact Xn | apply Xl rfl | apply Xm rfl)
 ·exact ⟨Nat.le_refl _, by rw [List.take_length]; exact hr⟩
 ·exact SLe.cons V (Le.ieq (by omega)) by4
 ·exact by3
 rintro i hI
 try dsimp only [List.cons_append, List.nil_append] at hI ⊢
 obtain ⟨hi, hf⟩ := hI
 refine Zh (Zh (Zd (Za 11 V V V (Zf V V (Za 12 V V V (op_geq V V V ?_)))))); intro c12 h12
 refine Xg (Zb ?_)
 rcases Zj h12 with ⟨rfl, g12⟩ | ⟨rfl, g12⟩
 ·refine Zp V (Yu (Yw (x_lp (Yv (Zb (Zh ?_))))))
  obtain rfl : i = 0 := by omega
  rw [List.take_zero, findL] at hf
  subst hf
  refine Zd (Za 28 V V V (Yo (ns := []) (xs := []) V tz_46 V tfl_46 V V V V (Yf V V (Zw (cs' := [_, _, _, _, _, _, _, _, _, _, _, _, _, _, _, _, _]) (i := 0) V ts_46 V V V V V (Xk V) V (Za 5 V V V (Ze V V (Xg (Zb (Zx ?_)))))))))
  exact out_ct (i := 0) V V V V ta_46 V by0 (Xh _) ⟨V, V⟩
 refine Zq V (Yb (Zb (Zh (Yc (Zh ?_)))))
 obtain ⟨i, rfl⟩ : ∃ j, i = j + 1 := ⟨i - 1, by omega⟩
 rw [show (((i + 1 : Nat) : Int) - 1) = (i : Int) by omega]
 obtain ⟨⟨qb, qvs, ⟨qwk, qws, qwn, qwl⟩, ⟨qk, qs, qn, ⟨qtk, qts, qtn, qtl⟩, qus, qks, qal, qbs⟩⟩, hxq⟩ := Yj (l := sc) (i := i) (by omega)
 have hcq := Cb.cellss_get hxq
 rw [take_snoc hxq, findL_snoc] at hf
 have hf : (if sameB qb s = true then some (Cb.mk qb qvs ⟨qwk, qws, qwn, qwl⟩ ⟨qk, qs, qn, ⟨qtk, qts, qtn, qtl⟩, qus, qks, qal, qbs⟩) else findL s (sc.take i)) = r := hf
 refine Zd (Za 15 V V V (Zg V tf_89_0 V V (Za 16 V V V (Zk V ta_27 V V (Za 17 V V V (Zf V V (Za 18 V V V (Zz V te_27 V (.seq _ _) V V (hcq) (Za 19 V V V (Zg V tf_46_0 V V (Za 20 V V V (Zk V ta_9 V V (Za 21 V V V (Zf V V (Za 22 V V V (op_seql V V V ?_)))))))))))))))); intro c22 h22
 refine Xg (Zb ?_)
 rcases Zj h22 with ⟨rfl, g22⟩ | ⟨rfl, g22⟩
 ·refine Zp V (Yb (Yq (Zb (Zd (Za 13 V V V (Zf V V (Za 14 V V V (op_sub V V V (Xo _ (by omega)) ?_))))))))
  refine Za 6 V V V (Ze V V (Xg (go_lp ?_)))
  rw [if_neg (fun q => g22 (sameB_iff.1 q))] at hf
  exact ⟨i, ⟨by omega, hf⟩, by show i < i + 1; omega, by4, by3⟩
 refine Zq V (Zh (Zd (Za 23 V V V (Zg V tf_89_0 V V (Za 24 V V V (Zk V ta_27 V V (Za 25 V V V (Zf V V (Za 26 V V V (Zz V te_27 V (.seq _ _) V V (hcq) (Za 27 V V V (Zn (cs' := [_, _, _, _, _, _, _, _, _, _, _, _, _, _, _, _, _]) V ta_46 V V V (Yf V V (Zw (cs' := [_, _, _, _, _, _, _, _, _, _, _, _, _, _, _, _, _]) (i := 0) V ts_46 V V V V V (Xk V) V (Za 5 V V V (Ze V V (Xg (Zb (Zx ?_)))))))))))))))))))
 rw [if_pos (sameB_iff.2 g22)] at hf
 subst hf
 exact out_ct (i := 0) V V V V ta_46 V by0 (Xh _) ⟨V, V⟩
def ckC (v : En) (pm : List (List AV)) (sc : List Cb) (vs : List ByteArray) : List AV := .seq 17 (Cb.cellss sc) :: .seq 1 (strs vs) :: (v.cells ++ [.seq 9 pm])
theorem coWith_c (v : En) (pm : List (List AV)) (sc l : List Cb) (vs : List ByteArray) (h1 : sc.length ≤ 1000000000) (h2 : l.length ≤ 1000000000) : PCall Tryz.prog 86 [.agg (ckC v pm sc vs), .seq 17 (Cb.cellss l)] (.agg (ckC v pm (sc ++ l) vs)) := by
 have HC := CloneCb_c sc h1
 have hl1 := Cb.cellss_len sc
 have hl2 := Cb.cellss_len l
 unfold ckC
 rw [Cb.cellss_app]
 obtain ⟨da, cl, ins⟩ := v
 simp only [En.cells, List.cons_append, List.nil_append]
 refine Zo Tryz.func86 V (by kernel_rfl) V (Xk V) ?_
 refine Ya (Zh (Zd (Za 2 V V V (op_boxe (cs' := [_, _, _, _, _, _]) V V V V ?_)))); intro b2
 refine Za 4 V V V (Zy (cs' := [_, _, _, _, _, _]) V tz_92 V V ?_); intro b4
 refine Xg (Zb (Zh (Zd (Za 5 V V V (Zs V tf_92_0 V (Za 6 V V V (Zs V tf_89_0 V (Za 7 V V V (Yg (i := 1) V ta_27 V V V (Za 8 V V V (op_callo (xs := [.tmp 7]) V V (HC) by1 ?_))))))))))); intro u8
 refine Za 9 V V V (Zf V V ?_)
 refine Za 10 V V V (op_append (i := 0) el_27 V V V V (.seq _ _) (by first | (simp; done) | (simp; omega) | omega) ?_)
 intro u10
 refine Za 11 V V V (Zs V tf_92_0 V (Za 12 V V V (Zs V tf_89_0 V (Yf V V (Zw (cs' := [_, _, _, _, _, _]) (i := 2) V ts_27 V V V V V (Xk V) V (Xg (Zb (Zh (Zd (Za 13 V V V (Zt (cs' := [_, _, _, _, _, _]) (i := 2) V ta_92 V V V V (Yf V V (Zw (cs' := [_, _, _, _, _, _]) (i := 1) V ts_92 V V V V V (Xk V) V (Xg (Zb (Zx ?_))))))))))))))))
 exact out_cell (i := 1) V V V ta_92 V by2 (Xh _) ⟨V, V⟩
theorem coMono_c (s : ByteArray) (t : Ty) : PCall Tryz.prog 87 [.val (.string s), .agg t.cells] (.agg (Cb.mk s [] t co0).cells) := by
 obtain ⟨k, ts, n, ks⟩ := t
 refine Zo Tryz.func87 V (by kernel_rfl) V (Xk V) ?_
 refine Ya (Zh (Zd (Za 3 V V V (Yl (cs' := [_, _, _, _]) V V V V (Za 4 V V V (Zy (cs' := [_, _, _, _, _, _, _, _, _, _, _, _, _, _, _, _, _]) V tz_46 V V ?_)))))); intro b4
 refine Xg (Zb (Zh (Zd (Za 5 V V V (Zf V V (Za 6 V V V (Zn (cs' := [_, _, _, _]) V Ye V V V (Za 7 V V V (Yo (ns := [0, 2]) (xs := [.tmp 5, .tmp 6]) V tz_46 V tfl_46 V V V V (Yf V V (Zw (cs' := [_, _, _, _, _, _, _, _, _, _, _, _, _, _, _, _, _]) (i := 0) V ts_46 V V V V V (Xk V) V (Xg (Zb (Zx ?_))))))))))))))
 exact out_cell (i := 0) V V V ta_46 V by0 (Xh _) ⟨V, V⟩
mutual
def Ty.wd : Ty → Prop
 | .mk _ _ _ ks => ks.length ≤ 1000000 ∧ Ty.wds ks
def Ty.wds : List Ty → Prop
 | [] => True
 | t :: ts => t.wd ∧ Ty.wds ts
end
theorem Ty.wds_iff : ∀ l : List Ty, Ty.wds l ↔ ∀ t ∈ l, t.wd
 | [] => by simp [Ty.wds]
 | t :: l => by simp [Ty.wds, Ty.wds_iff l]
theorem Ty.wds_at {l : List Ty} {i : Nat} {t : Ty} (h : Ty.wds l) (hx : l[i]? = some t) : t.wd := (Ty.wds_iff l).1 h t (Xp hx)
theorem les_eqW {cs cs' : List AV} (h : cs = cs') : Les cs cs' := by rw [h]; exact Les.refl _
abbrev zTyW : List AV := [.val (.int .i64 0), .val (.string ⟨#[]⟩), .val (.int .i64 0), .val (.slice none 0 0)]
theorem noneW_c (x : Ty) (o : Ty → Option Ty) (ho : o x = none) : ACall Tryz.prog 142 [.agg x.cells] [] (fun v M' => [] = M' ∧ ∃ (y : Ty) (c : Bool), v = .tup [.agg y.cells, .val (.bool c)] ∧ o x = if c then some y else none) := by
 obtain ⟨k, s, n, ks⟩ := x
 refine Zo Tryz.func142 V (by kernel_rfl) V (Xk V) ?_
 refine Ya (Zh (Zd (Za 1 V V V (op_boxe (cs' := [_, _, _, _]) V V V V ?_)))); intro b1
 refine Za 2 V V V (Zy (cs' := [_, _, _, _]) V Yy V V ?_); intro b2
 refine Za 3 V V V (Ze V V (Xg (Zb (Zh (Zd (Za 4 V V V (Zt (cs' := [_, _, _, _]) (i := 1) V Ye V V V V (Yf V V (Zw (cs' := [_, _, _, _]) (i := 0) V Yx V V V V V (Xk V) V (Za 3 V V V (Ze V V (Xg (Zb (Zx ?_))))))))))))))
 exact out_ct (i := 0) V V V V Ye V by2 by3 ⟨V, .mk k s n ks, false, V, ho⟩
theorem turn_esW (o : Ty → Option Ty) (ks : List Ty) (i : Nat) (x : Ty) (hx : ks[i]? = some x) (zc : List AV) :
    (Ty.cellss (Ty.turns o (ks.take i)) ++ List.replicate (ks.length - i) zc).set i (x.turn o).cells = Ty.cellss (Ty.turns o (ks.take (i + 1))) ++ List.replicate (ks.length - (i + 1)) zc := by
 have hi : i < ks.length := by
  rcases Nat.lt_or_ge i ks.length with k | k
  ·exact k
  rw [List.getElem?_eq_none k] at hx; simp at hx
 have hl : (Ty.cellss (Ty.turns o (ks.take i))).length = i := by rw [Ty.cellss_len, Ty.turns_len]; simp; omega
 rw [List.set_append_right _ _ (by omega), hl, Nat.sub_self, show ks.length - i = (ks.length - (i + 1)) + 1 from by omega, List.replicate_succ, List.set_cons_zero, take_snoc hx, Ty.turns_snoc, Ty.cellss_app]
 simp [Ty.cellss]
theorem turn_wideW (o : Ty → Option Ty) (ks : List Ty) (i : Nat) (zc : List AV) (hz : zc.length = 4) : ∀ e ∈ Ty.cellss (Ty.turns o (ks.take i)) ++ List.replicate (ks.length - i) zc, e.length = 4 := by
 intro e he
 rcases List.mem_append.1 he with q | q
 ·rw [Ty.cellss_map] at q
  obtain ⟨⟨k, s, n, l⟩, _, rfl⟩ := List.mem_map.1 q
  rfl
 rw [List.eq_of_mem_replicate q]; exact hz
theorem turnW_c (o : Ty → Option Ty) (f : FuncId) (fs cs : List AV) (Mc : Mem)
    (hf : ∀ x, ACall Tryz.prog f (fs ++ [.agg (Ty.cells x)] ++ cs) Mc (fun v M' => Mc = M' ∧ ∃ (y : Ty) (c : Bool), v = .tup [.agg y.cells, .val (.bool c)] ∧ o x = if c then some y else none)) (d : Nat) :
    ∀ t : Ty, t.size ≤ d → t.wd → ACall Tryz.prog 140 [.agg t.cells, .clo (.func f) fs cs] Mc (fun v M' => v = .agg (t.turn o).cells ∧ Mc = M') := by
 induction d with
 | zero => intro t hd; have := Ty.size_pos t; omega
 | succ d ih =>
  rintro ⟨k, s, n, ks⟩ hd hmx
  have hl := Ty.cellss_len ks
  rw [Ty.size] at hd
  rw [Ty.wd] at hmx
  obtain ⟨hls, hkw⟩ := hmx
  refine Zo Tryz.func140 V (by kernel_rfl) V (Xk V) ?_
  refine Ya (Zh (Zd (Za 2 V V V (op_boxe (cs' := [_, _, _, _]) V V V V ?_)))); intro b2
  refine Za 4 V V V (Zy (cs' := [_, _, _, _]) V Yy V V ?_); intro b4
  refine Xg (Zb (Zh (Zh (Zd (Za 11 V V V (Zf V V (Za 12 V V V (Zt (cs' := [_, _, _, _]) (i := 1) V Ye V V V V ?_))))))))
  refine Za 13 V V V (op_callvm (xs := [.tmp 12])  [.loc b4 _, .loc b2 _] V V V V (hf (.mk k s n ks)) (Les.refl _) (fun v13 M13 h13 => ?_))
  obtain ⟨rfl, ⟨yk, ys, yn, yks⟩, c15, rfl, hc⟩ := h13
  refine Za 10 V V V (Zf V V (Za 14 V V V (Ym V V V (Za 15 V V V (Ym V V V (Za 5 V V V (Zy (cs' := [_, _, _, _]) V Yy V V ?_))))))); intro b5
  refine Yf V V (Zw (cs' := [_, _, _, _]) (i := 0) V Yx V V V V V (Xk V) V (Za 6 V V V (Ze V V (Xg (Zb (Zh (Zd (Za 16 V V V (Zf V V (Xg (Zb ?_)))))))))))
  rcases c15 with _ | _
  ·refine Zp V (Yb (Zb (Zh (Zd (Za 18 V V V (Zs V Xa V (Za 19 V V V (Yg (i := 2) V Xc V V V ?_))))))))
   refine Za 20 V V V (Yi V tu_22 V (.seq _ _) (fun n20 => ?_))
   refine Za 21 V V V (op_makeSlice el_22 V V V (by omega) V ?_); intro b21
   refine Za 7 V V V (Ze V V (Xg (Zb (Zh (Zh (Zd (Za 22 V V V (Zs V Xa V (Za 23 V V V (Yg (i := 3) V Xc V V V ?_))))))))))
   refine Za 24 V V V (Yi V tu_22 V (.seq _ _) (fun n24 => ?_))
   refine Za 25 V V V (Zf V V (Xg (Zb (Yc ?_))))
   rw [hl]
   refine c_loop (σ := Nat) (fun zz => match zz with | i => [(1, .clo (.func f) fs cs), (2, .ptr b2 0), (4, .ptr b4 0), (7, .arr b21 0 ks.length ks.length), (23, .seq 4 (Ty.cellss ks)), (24, .val (.int .i64 ks.length)), (25, .val (.int .i64 i))]) (fun zz => match zz with | i => .loc b21 (Ty.cellss (Ty.turns o (ks.take i)) ++ List.replicate (ks.length - i) zTyW).flatten :: .loc b5 (Ty.cells (.mk yk ys yn yks)) :: .loc b4 zTyW :: .loc b2 (Ty.cells (.mk k s n ks)) :: Mc) (fun zz => match zz with | i => i ≤ ks.length) (fun zz => match zz with | i => ks.length - i) (0) ?_ ?_ ?_ ?_
   ·simp
   ·exact by4
   ·exact by3
   rintro i hI
   try dsimp only [List.cons_append, List.nil_append] at hI ⊢
   refine Zh (Zd (Za 26 V V V (Yr V V V ?_))); intro c26 h26
   refine Xg (Zb (Zh ?_))
   rcases Zj h26 with ⟨rfl, g26⟩ | ⟨rfl, g26⟩
   ·refine Zp V (Yu (Yw (x_lp (Yv (Zb (Zh ?_))))))
    have hw := turn_wideW o ks ks.length zTyW rfl
    obtain rfl : i = ks.length := by omega
    simp only [List.take_length, Nat.sub_self, List.replicate_zero, List.append_nil] at hw ⊢
    refine c_freeze (i := 0) (al' := [(2, .ptr b2 0), (4, .ptr b4 0), (7, .seq 4 (Ty.cellss (Ty.turns o ks)))]) V V hw (by rw [Ty.cellss_len, Ty.turns_len]) (by omega) (Frz.cons V (Xi _) (Frz.cons V (Xi _) (Frz.arr V Frz.nil))) ?_
    refine Zd (Za 37 V V V (Zf V V (Za 38 V V V (Zs V Xa V (Yf V V (Zw (cs' := [_, _, _, _]) (i := 2) V ts_22 V V V V V (Xk V) V (Xg (Zb (Zh (Zd (Za 39 V V V (Zt (cs' := [_, _, _, _]) (i := 2) V Ye V V V V (Yf V V (Zw (cs' := [_, _, _, _]) (i := 1) V Yx V V V V V (Xk V) V (Xg (Zb (Zx ?_)))))))))))))))))
    rw [Ty.turn_none (by simpa using hc)]
    exact out_cell (i := 1) V V V Ye V by2 (MLe.drop _ (MLe.drop _ (MLe.drop _ (MLe.refl _)))) ⟨V, V⟩
   refine Zq V (Yb (Zb (Zh (Yc (Zh ?_)))))
   obtain ⟨⟨k', s', n', ks'⟩, hx⟩ := Yj (l := ks) (i := i) (by omega)
   have hcx := Ty.cellss_get hx
   have hsz := Ty.size_at hx
   have H := ih (.mk k' s' n' ks') (by omega) (Ty.wds_at hkw hx)
   have he := turn_esW o ks i _ hx zTyW
   have hw := turn_wideW o ks i zTyW rfl
   have hln : (Ty.cellss (Ty.turns o (ks.take i)) ++ List.replicate (ks.length - i) zTyW).length = ks.length := by rw [List.length_append, Ty.cellss_len, Ty.turns_len]; simp; omega
   generalize Ty.turn o _ = r at H he
   obtain ⟨rk, rs, rn, rks⟩ := r
   refine Zd (Za 27 V V V (Zf V V (Za 28 V V V (Zz V te_22 V (.seq _ _) V V (by assumption) ?_))))
   refine Za 29 V V V (Zn (cs' := [_, _, _, _]) V Ye V V V (Za 9 V V V (Zy (cs' := [_, _, _, _]) V Yy V V ?_))); intro b9
   refine Za 8 V V V (Ze V V (Yf V V (Zw (cs' := [_, _, _, _]) (i := 0) V Yx V V V V V (Xk V) V (Xg (Zb (Zd (Za 30 V V V (Zf V V (Za 31 V V V (Zf V V (Za 32 V V V (Zt (cs' := [_, _, _, _]) (i := 0) V Ye V V V V (Za 33 V V V (Zf V V ?_))))))))))))))
   refine Za 34 V V V (op_callm (xs := [.tmp 32, .tmp 33])  [.loc b9 _, .loc b21 _, .loc b5 _, .loc b4 _, .loc b2 _] V V V H (Les.refl _) (fun v34 M34 h34 => ?_))
   obtain ⟨rfl, rfl⟩ := h34
   refine Za 35 V V V (op_index_arr V te_22 V V V (by omega) ?_)
   refine Yf V V (op_store_row (k := 1) V Yx V V V V V (hw) ((by omega)) ?_)
   refine Xg (Yq (Zb (Zd (Za 36 V V V (Yp V V V (Xo _ (by omega)) ?_)))))
   refine Za 25 V V V (Zf V V (Xg (go_lp ?_)))
   refine ⟨i + 1, by simp; omega, by simp; omega, by4, ?_⟩
   exact MLe.drop _ (MLe.loc _ (les_eqW (congrArg List.flatten he)) (MLe.refl _))
  refine Zq V (Zh (Zd (Za 17 V V V (Zt (cs' := [_, _, _, _]) (i := 0) V Ye V V V V (Yf V V (Zw (cs' := [_, _, _, _]) (i := 1) V Yx V V V V V (Xk V) V (Xg (Zb (Zx ?_)))))))))
  rw [Ty.turn_some (by simpa using hc)]
  exact out_cell (i := 1) V V V Ye V by2 (MLe.drop _ (MLe.drop _ (MLe.drop _ (MLe.refl _)))) ⟨V, V⟩
theorem copyW_c (t : Ty) (hmx : t.wd) : PCall Tryz.prog 140 [.agg t.cells, .clo (.func 142) [] []] (.agg t.cells) := by
 have := turnW_c (fun _ => none) 142 [] [] [] (fun x => noneW_c x (fun _ => none) rfl) t.size t (Nat.le_refl _) hmx
 rw [Ty.turn_id] at this
 exact this.mono (fun v M' ⟨h1, h2⟩ => ⟨h1, h2.symm⟩)
theorem PutFW_c (names : List ByteArray) (ts : List Ty) (b3 b4 : Nat) (hts : ∀ t ∈ ts, t.wd) (x : Ty) : ACall Tryz.prog 141 [.agg x.cells, .ptr b3 0, .ptr b4 0] [.loc b3 [.seq 1 (strs names)], .loc b4 [.seq 4 (Ty.cellss ts)]] (fun v M' => [.loc b3 [.seq 1 (strs names)], .loc b4 [.seq 4 (Ty.cellss ts)]] = M' ∧ ∃ (y : Ty) (c : Bool), v = .tup [.agg y.cells, .val (.bool c)] ∧ putO names ts x = if c then some y else none) := by
 obtain ⟨k, s, n, ks⟩ := x
 have hl := Ty.cellss_len ts
 have hfl := firstAt_lt s names 0
 refine Zo Tryz.func141 V (by kernel_rfl) V (Xk V) ?_
 refine Ya (Zh (Zd (Za 3 V V V (op_boxe (cs' := [_, _, _, _]) V V V V ?_)))); intro b3
 refine Za 4 V V V (Zy (cs' := [_, _, _, _]) V Yy V V ?_); intro b4
 refine Za 5 V V V (Ze V V (Xg (Zb (Zh (Zh (Zd (Za 7 V V V (Zs V tf_24_0 V (Za 8 V V V (Yg (i := 1) V ta_3 V V V (Za 9 V V V (Xd V V V ?_)))))))))))); intro c9 h9
 refine Xg (Zb ?_)
 rcases Zj h9 with ⟨rfl, g9⟩ | ⟨rfl, g9⟩
 ·refine Zp V (Yb (Zb (Zh (Zd (Za 11 V V V (Yg (i := 2) V ta_44 V V V (Za 12 V V V (Zs V tf_24_1 V (Za 13 V V V (Yg (i := 1) V ta_9 V V V (Za 14 V V V (Yd (xs := [.tmp 11, .tmp 13]) V V (IndexS_c names s) by1 ?_))))))))))))
  refine Za 6 V V V (Ze V V (Xg (Zb (Zh (Zh (Xe 22 (firstAt s names 0 < 0 ∨ (ts.length : Int) ≤ firstAt s names 0) ?_ _ _ V ?_))))))
  ·skip
   refine Za 15 V V V (Zf V V (Za 16 V V V (Yr V V V ?_))); intro c16 h16
   refine Za 17 V V V (Zf V V ?_)
   rcases Zj h16 with ⟨rfl, g16⟩ | ⟨rfl, g16⟩
   ·skip
    refine Zi 18 V V V V V (Zf V V (Zi 19 V V V V V (Yg (i := 3) V Xc V V V ?_)))
    refine Zi 20 V V V V V (Yi V tu_22 V (.seq _ _) (fun n20 => ?_))
    refine Zi 21 V V V V V (op_geq V V V ?_); intro c21 h21
    refine Za 22 V V V (Zl V V V (Xg (Xj V ?_ by5 by3)))
    simp_all; omega
   skip
   refine Zc 18 V V V V V (Zc 19 V V V V V (Zc 20 V V V V V (Zc 21 V V V V V (Za 22 V V V (Zl V V V (Xg (Xj V ?_ by5 by3)))))))
   simp_all; done
  intro c22 h22
  refine Zb ?_
  rcases Zj h22 with ⟨rfl, g22⟩ | ⟨rfl, g22⟩
  ·refine Zp V (Yb (Zb (Zh ?_)))
   obtain ⟨j, hj⟩ : ∃ j : Nat, firstAt s names 0 = j := ⟨(firstAt s names 0).toNat, by omega⟩
   obtain ⟨⟨yk, ys, yn, yks⟩, hy⟩ := Yj (l := ts) (i := j) (by omega)
   have hcy := Ty.cellss_get hy
   rw [hj]
   obtain rfl : k = 1 := by simpa using g9
   refine Zd (Za 24 V V V (Yg (i := 3) V Xc V V V (Za 25 V V V (Zf V V (Za 26 V V V (Zz V te_22 V (.seq _ _) V V (by assumption) ?_))))))
   refine Za 27 V V V (Zn (cs' := [_, _, _, _]) V Ye V V V (Za 28 V V V (Yd (xs := [.tmp 27, .func 142]) V V (copyW_c (.mk yk ys yn yks) (hts _ (Xp hy))) by1 ?_)))
   refine Yf V V (Zw (cs' := [_, _, _, _]) (i := 0) V Yx V V V V V (Xk V) V (Za 5 V V V (Ze V V (Xg (Zb (Zx ?_))))))
   exact out_ct (i := 0) V V V V Ye V by2 (MLe.drop _ (MLe.drop _ (MLe.refl _))) ⟨V, .mk yk ys yn yks, true, V, by rw [putO_in hj, hy]; rfl⟩
  refine Zq V (Zh (Zd (Za 23 V V V (Zt (cs' := [_, _, _, _]) (i := 1) V Ye V V V V (Yf V V (Zw (cs' := [_, _, _, _]) (i := 0) V Yx V V V V V (Xk V) V (Za 5 V V V (Ze V V (Xg (Zb (Zx ?_)))))))))))
  exact out_ct (i := 0) rfl rfl rfl rfl Ye rfl by2 (MLe.drop _ (MLe.drop _ (MLe.refl _))) ⟨rfl, .mk k s n ks, false, rfl, by rcases g22 with q | q; exact putO_out q; exact putO_big q⟩
 refine Zq V (Zh (Zd (Za 10 V V V (Zt (cs' := [_, _, _, _]) (i := 1) V Ye V V V V (Yf V V (Zw (cs' := [_, _, _, _]) (i := 0) V Yx V V V V V (Xk V) V (Za 5 V V V (Ze V V (Xg (Zb (Zx ?_)))))))))))
 exact out_ct (i := 0) V V V V Ye V by2 (MLe.drop _ (MLe.drop _ (MLe.refl _))) ⟨V, .mk k s n ks, false, V, putO_not g9⟩
theorem PutW_c (names : List ByteArray) (ts : List Ty) (t : Ty) (hts : ∀ t ∈ ts, t.wd) (hmx : t.wd) : PCall Tryz.prog 82 [.seq 1 (strs names), .seq 4 (Ty.cellss ts), .agg t.cells] (.agg (t.turn (putO names ts)).cells) := by
 have W := fun (b3 b4 : Nat) => turnW_c (putO names ts) 141 [] [.ptr b3 0, .ptr b4 0] [.loc b3 [.seq 1 (strs names)], .loc b4 [.seq 4 (Ty.cellss ts)]] (fun x => PutFW_c names ts b3 b4 hts x) t.size t (Nat.le_refl _) hmx
 generalize Ty.turn _ t = r at W ⊢
 obtain ⟨rk, rs, rn, rks⟩ := r
 obtain ⟨k, s, n, ks⟩ := t
 refine Zo Tryz.func82 V (by kernel_rfl) V (Xk V) ?_
 refine Ya (Zh (Zd (Za 3 V V V (op_boxe (cs' := [_]) V V V V ?_)))); intro b3
 refine Za 4 V V V (op_boxe (cs' := [_]) V V V V ?_); intro b4
 refine Za 5 V V V (op_boxe (cs' := [_, _, _, _]) V V V V ?_); intro b5
 refine Za 6 V V V (Zy (cs' := [_, _, _, _]) V Yy V V ?_); intro b6
 refine Xg (Zb (Zh (c_mem (M' := [.loc b6 zTyW, .loc b5 _, .loc b3 [.seq 1 (strs names)], .loc b4 [.seq 4 (Ty.cellss ts)]]) (MImp.cons _ (MImp.cons _ (MImp.swap _ _ _))) (Zd (Za 7 V V V (Zt (cs' := [_, _, _, _]) (i := 1) V Ye V V V V (Za 8 V V V (Xb (fs := []) (cs := [.tmp 3, .tmp 4]) V V V ?_))))))))
 refine Za 9 V V V (op_callm (xs := [.tmp 7, .tmp 8])  [.loc b6 _, .loc b5 _] V V V (W b3 b4) (Les.refl _) (fun v9 M9 h9 => ?_))
 obtain ⟨rfl, rfl⟩ := h9
 refine Yf V V (Zw (cs' := [_, _, _, _]) (i := 0) V Yx V V V V V (Xk V) V (Xg (Zb (Zx ?_))))
 exact out_cell (i := 0) V V V Ye V by2 by3 ⟨V, V⟩
theorem typ1_c (v : En) (pm : List (List AV)) (sc : List Cb) (vs : List ByteArray) (x : Ty) : BCall Tryz.prog 80 [.agg x.cells, .cptr (ckC v pm sc vs)] (rightC v vs x = true) := by
 have H := coRight_c v vs x
 generalize (rightC v vs x = true) = q at *
 unfold ckC
 obtain ⟨k, s, n, ks⟩ := x
 obtain ⟨da, cl, ins⟩ := v
 simp only [En.cells, List.cons_append, List.nil_append] at *
 refine Zo Tryz.func80 V (by kernel_rfl) V (Xk V) ?_
 refine Ya (Zh (Zd (Za 2 V V V (Yl (cs' := [_, _, _, _]) V V V V (Za 3 V V V (Ze V V (Xg (Zb (Zh (Zd (Za 4 V V V (Zg V tf_92_1 V V (Za 5 V V V (Zn (cs' := [_, _, _]) V ta_41 V V V (Za 6 V V V (Zg V tf_92_0 V V (Za 7 V V V (Zg V tf_89_1 V V (Za 8 V V V (Zk V ta_44 V V (Za 9 V V V (Zn (cs' := [_, _, _, _]) V Ye V V V (Za 10 V V V (Yh (xs := [.tmp 5, .tmp 8, .tmp 9]) V V (H) by1 ?_)))))))))))))))))))))))); intro c10 h10
 exact Za 3 V V V (Ze V V (Xg (Zb (Zx (Zv V V (Xi _) (Xh _) ⟨⟨_, h10, V⟩, V⟩)))))
abbrev TypC (v : En) (pm : List Pm) (sc : List Cb) (vs : List ByteArray) (e : Co) (r : Ty × Bool) : Prop := PCall Tryz.prog 48 [.agg (ckC v (Pm.cellss pm) sc vs), .agg e.cells] (.tup [.agg r.1.cells, .val (.bool r.2)])
theorem typ_var (v : En) (pm : List Pm) (sc : List Cb) (vs : List ByteArray) (m : Int) (s : ByteArray) (t : Ty) (ts : List Ty) (ks : List Co) (al : List Ca) (bs : List Cb) (h : ts.all (rightC v vs) = true) (hts : ∀ t ∈ ts, t.wd) (hsc : ∀ b, findL s sc = some b → b.t.wd) : TypC v pm sc vs (.mk 1 s m t ts ks al bs) (varC sc s ts) := by
 have HA := all_Ty (rightC v vs) 80 [] [.cptr (ckC v (Pm.cellss pm) sc vs)] ts (fun x _ => typ1_c v (Pm.cellss pm) sc vs x)
 rw [h] at HA
 have HF := coFind_c sc vs s
 have HP := fun b (hb : findL s sc = some b) => PutW_c b.vs ts b.t hts (hsc b hb)
 obtain ⟨r, hr⟩ : ∃ r, varC sc s ts = r := ⟨_, rfl⟩
 rw [hr]
 unfold varC at hr
 have hlt := Ty.cellss_len ts
 obtain ⟨tk, tn, tm, tl⟩ := t
 obtain ⟨da, cl, ins⟩ := v
 unfold TypC ckC at *
 simp only [En.cells, List.cons_append, List.nil_append] at *
 cases hf : findL s sc with
 | none =>
  rw [hf] at hr HF
  subst hr
  refine Zo Tryz.func48 V (by kernel_rfl) V (Xk V) ?_
  refine Ya (Zh (Zd (Za 2 V V V (Yl (cs' := [_, _, _, _, _, _]) V V V V (Za 3 V V V (Yl (cs' := [_, _, _, _, _, _, _, _, _, _, _]) V V V V (Za 4 V V V (Zy (cs' := [_, _, _, _]) V Yy V V ?_)))))))); intro b4
  refine Za 5 V V V (Ze V V (Xg (Zb (Zh (Zd (Za 17 V V V (Yo (ns := []) (xs := []) V Yy V tfl_24 V V V V (Za 6 V V V (Zy (cs' := [_, _, _, _]) V Yy V V ?_))))))))); intro b6
  refine Yf V V (Zw (cs' := [_, _, _, _]) (i := 0) V Yx V V V V V (Xk V) V (Xg (Zb (Zh (Zh (Zd (Za 18 V V V (Zg V tf_29_4 V V (Za 19 V V V (Zk V Xc V V (Za 20 V V V (Xb (fs := []) (cs := [.tmp 2]) V V V (Za 21 V V V (Yh (xs := [.tmp 19, .tmp 20]) V V (HA) by1 ?_)))))))))))))); intro c21 h21
  refine Za 22 V V V (Yn V V ?_); intro c22 h22
  try replace h22 := nott h22 h21
  refine Xg (Zb ?_)
  rcases Zj h22 with ⟨rfl, g22⟩ | ⟨rfl, g22⟩
  ·refine Zp V (Yb (Zb (Zh (Zh (Zd (Za 24 V V V (Zg V tf_29_0 V V (Za 25 V V V (Zk V ta_3 V V (Xg (Zb (Yc (Zh (Zd (Za 27 V V V (op_eql V V V ?_)))))))))))))))); intro c27 h27
   refine Za 26 V V V (Ze V V (Xg (Zb ?_)))
   rcases Zj h27 with ⟨rfl, g27⟩ | ⟨rfl, g27⟩
   ·exact absurd V g27
   refine Zq V (Zh (Zd (Za 29 V V V (Zg V tf_92_0 V V (Za 30 V V V (Zn (cs' := [_, _]) V ta_89 V V V (Za 31 V V V (Zg V tf_29_1 V V (Za 32 V V V (Zk V ta_9 V V (Za 33 V V V (Yd (xs := [.tmp 30, .tmp 32]) V V (HF) by1 ?_))))))))))))
   refine Za 28 V V V (Zf V V (Za 34 V V V (Ym V V V (Za 35 V V V (Ym V V V (Za 7 V V V (Zy (cs' := [_, _, _, _, _, _, _, _, _, _, _, _, _, _, _, _, _]) V tz_46 V V ?_))))))); intro b7
   refine Yf V V (Zw (cs' := [_, _, _, _, _, _, _, _, _, _, _, _, _, _, _, _, _]) (i := 0) V ts_46 V V V V V (Xk V) V (Za 8 V V V (Ze V V (Xg (Zb (Zh (Zh (Xe 46 (True) ?_ _ _ V ?_))))))))
   ·skip
    refine Za 36 V V V (Zf V V (Za 37 V V V (Yn V V ?_))); intro c37 h37
    try replace h37 := nott h37 h35
    refine Za 38 V V V (Zf V V ?_)
    rcases Zj h37 with ⟨rfl, g37⟩ | ⟨rfl, g37⟩
    ·skip
     refine Zi 39 V V V V V (Zs V tf_46_1 V (Zi 40 V V V V V (Yg (i := 0) V ta_44 V V V ?_)))
     refine Zi 41 V V V V V (Yi V tu_44 V (.seq _ _) (fun n41 => ?_))
     refine Zi 42 V V V V V (Zg V tf_29_4 V V (Zi 43 V V V V V (Zk V Xc V V ?_)))
     refine Zi 44 V V V V V (Yi V tu_22 V (.seq _ _) (fun n44 => ?_))
     refine Zi 45 V V V V V (Xd V V V ?_); intro c45 h45
     refine Za 46 V V V (Zl V V V (Xg (Xj V ?_ by5 by3)))
     simp_all
    skip
    refine Zc 39 V V V V V (Zc 40 V V V V V (Zc 41 V V V V V (Zc 42 V V V V V (Zc 43 V V V V V (Zc 44 V V V V V (Zc 45 V V V V V (Za 46 V V V (Zl V V V (Xg (Xj V ?_ by5 by3))))))))))
    simp_all
   intro c46 h46
   refine Zb ?_
   rcases Zj h46 with ⟨rfl, g46⟩ | ⟨rfl, g46⟩
   ·exact absurd trivial g46
   refine Zq V (Zh (Zd (Za 47 V V V (Zt (cs' := [_, _, _, _]) (i := 1) V Ye V V V V (Yf V V (Zw (cs' := [_, _, _, _]) (i := 2) V Yx V V V V V (Xk V) V (Za 5 V V V (Ze V V (Xg (Zb (Zx ?_)))))))))))
   exact out_ct (i := 2) V V V V Ye V by0 (Xh _) ⟨V, V⟩
  refine Zq V (Zh ?_)
  exact absurd trivial g22
 | some b =>
  have HP := HP b hf
  rw [hf] at hr HF
  simp only [] at hr
  obtain ⟨qb, qvs, ⟨qwk, qws, qwn, qwl⟩, ⟨qk, qs, qn, ⟨qtk, qts, qtn, qtl⟩, qus, qks, qal, qbs⟩⟩ := b
  have hr : (if qvs.length = ts.length then ((Ty.mk qwk qws qwn qwl).turn (putO qvs ts), true) else (tyZ, false)) = r := hr
  have HP : PCall Tryz.prog 82 [.seq 1 (strs qvs), .seq 4 (Ty.cellss ts), .agg (Ty.mk qwk qws qwn qwl).cells] (.agg ((Ty.mk qwk qws qwn qwl).turn (putO qvs ts)).cells) := HP
  generalize (Ty.mk qwk qws qwn qwl).turn (putO qvs ts) = y at *
  obtain ⟨yk, ys, yn, yl⟩ := y
  have hlv := strs_len qvs
  refine Zo Tryz.func48 V (by kernel_rfl) V (Xk V) ?_
  refine Ya (Zh (Zd (Za 2 V V V (Yl (cs' := [_, _, _, _, _, _]) V V V V (Za 3 V V V (Yl (cs' := [_, _, _, _, _, _, _, _, _, _, _]) V V V V (Za 4 V V V (Zy (cs' := [_, _, _, _]) V Yy V V ?_)))))))); intro b4
  refine Za 5 V V V (Ze V V (Xg (Zb (Zh (Zd (Za 17 V V V (Yo (ns := []) (xs := []) V Yy V tfl_24 V V V V (Za 6 V V V (Zy (cs' := [_, _, _, _]) V Yy V V ?_))))))))); intro b6
  refine Yf V V (Zw (cs' := [_, _, _, _]) (i := 0) V Yx V V V V V (Xk V) V (Xg (Zb (Zh (Zh (Zd (Za 18 V V V (Zg V tf_29_4 V V (Za 19 V V V (Zk V Xc V V (Za 20 V V V (Xb (fs := []) (cs := [.tmp 2]) V V V (Za 21 V V V (Yh (xs := [.tmp 19, .tmp 20]) V V (HA) by1 ?_)))))))))))))); intro c21 h21
  refine Za 22 V V V (Yn V V ?_); intro c22 h22
  try replace h22 := nott h22 h21
  refine Xg (Zb ?_)
  rcases Zj h22 with ⟨rfl, g22⟩ | ⟨rfl, g22⟩
  ·refine Zp V (Yb (Zb (Zh (Zh (Zd (Za 24 V V V (Zg V tf_29_0 V V (Za 25 V V V (Zk V ta_3 V V (Xg (Zb (Yc (Zh (Zd (Za 27 V V V (op_eql V V V ?_)))))))))))))))); intro c27 h27
   refine Za 26 V V V (Ze V V (Xg (Zb ?_)))
   rcases Zj h27 with ⟨rfl, g27⟩ | ⟨rfl, g27⟩
   ·exact absurd V g27
   refine Zq V (Zh (Zd (Za 29 V V V (Zg V tf_92_0 V V (Za 30 V V V (Zn (cs' := [_, _]) V ta_89 V V V (Za 31 V V V (Zg V tf_29_1 V V (Za 32 V V V (Zk V ta_9 V V (Za 33 V V V (Yd (xs := [.tmp 30, .tmp 32]) V V (HF) by1 ?_))))))))))))
   refine Za 28 V V V (Zf V V (Za 34 V V V (Ym V V V (Za 35 V V V (Ym V V V (Za 7 V V V (Zy (cs' := [_, _, _, _, _, _, _, _, _, _, _, _, _, _, _, _, _]) V tz_46 V V ?_))))))); intro b7
   refine Yf V V (Zw (cs' := [_, _, _, _, _, _, _, _, _, _, _, _, _, _, _, _, _]) (i := 0) V ts_46 V V V V V (Xk V) V (Za 8 V V V (Ze V V (Xg (Zb (Zh (Zh (Xe 46 (¬ qvs.length = ts.length) ?_ _ _ V ?_))))))))
   ·skip
    refine Za 36 V V V (Zf V V (Za 37 V V V (Yn V V ?_))); intro c37 h37
    try replace h37 := nott h37 h35
    refine Za 38 V V V (Zf V V ?_)
    rcases Zj h37 with ⟨rfl, g37⟩ | ⟨rfl, g37⟩
    ·skip
     refine Zi 39 V V V V V (Zs V tf_46_1 V (Zi 40 V V V V V (Yg (i := 0) V ta_44 V V V ?_)))
     refine Zi 41 V V V V V (Yi V tu_44 V (.seq _ _) (fun n41 => ?_))
     refine Zi 42 V V V V V (Zg V tf_29_4 V V (Zi 43 V V V V V (Zk V Xc V V ?_)))
     refine Zi 44 V V V V V (Yi V tu_22 V (.seq _ _) (fun n44 => ?_))
     refine Zi 45 V V V V V (Xd V V V ?_); intro c45 h45
     refine Za 46 V V V (Zl V V V (Xg (Xj V ?_ by5 by3)))
     first | (simp_all; done) | (simp_all; omega) | grind
    skip
    refine Zc 39 V V V V V (Zc 40 V V V V V (Zc 41 V V V V V (Zc 42 V V V V V (Zc 43 V V V V V (Zc 44 V V V V V (Zc 45 V V V V V (Za 46 V V V (Zl V V V (Xg (Xj V ?_ by5 by3))))))))))
    first | (simp_all; done) | (simp_all; omega) | grind
   intro c46 h46
   refine Zb ?_
   rcases Zj h46 with ⟨rfl, g46⟩ | ⟨rfl, g46⟩
   ·refine Zp V (Yb (Zb (Zh (Zd (Za 48 V V V (Zs V tf_46_1 V (Za 49 V V V (Yg (i := 0) V ta_44 V V V (Za 50 V V V (Zg V tf_29_4 V V (Za 51 V V V (Zk V Xc V V (Za 52 V V V (Zs V tf_46_2 V (Za 53 V V V (Zt (cs' := [_, _, _, _]) (i := 0) V Ye V V V V (Za 54 V V V (Yd (xs := [.tmp 49, .tmp 51, .tmp 53]) V V (HP) by1 ?_))))))))))))))))))
    refine Yf V V (Zw (cs' := [_, _, _, _]) (i := 2) V Yx V V V V V (Xk V) V (Za 5 V V V (Ze V V (Xg (Zb (Zx ?_))))))
    rw [if_pos (Classical.not_not.1 g46)] at hr
    subst hr
    exact out_ct (i := 2) V V V V Ye V by0 (Xh _) ⟨V, V⟩
   refine Zq V (Zh (Zd (Za 47 V V V (Zt (cs' := [_, _, _, _]) (i := 1) V Ye V V V V (Yf V V (Zw (cs' := [_, _, _, _]) (i := 2) V Yx V V V V V (Xk V) V (Za 5 V V V (Ze V V (Xg (Zb (Zx ?_)))))))))))
   rw [if_neg g46] at hr
   subst hr
   exact out_ct (i := 2) V V V V Ye V by0 (Xh _) ⟨V, V⟩
  refine Zq V (Zh ?_)
  exact absurd trivial g22
theorem typ_lam (v : En) (pm : List Pm) (sc : List Cb) (vs : List ByteArray) (m : Int) (s : ByteArray) (t : Ty) (ts : List Ty) (x : Co) (al : List Ca) (bs : List Cb) (r : Ty × Bool) (h : ts.all (rightC v vs) = true) (hb : rightC v vs t = true) (hs : sc.length ≤ 1000000000) (IH : TypC v pm (sc ++ [.mk s [] t co0]) vs x r) : TypC v pm sc vs (.mk 6 s m t ts [x] al bs) (.mk 3 arrow 0 [t, r.1], r.2) := by
 have HA := all_Ty (rightC v vs) 80 [] [.cptr (ckC v (Pm.cellss pm) sc vs)] ts (fun x _ => typ1_c v (Pm.cellss pm) sc vs x)
 rw [h] at HA
 have HR := coRight_c v vs t
 rw [hb] at HR
 have HM := coMono_c s t
 have HW := coWith_c v (Pm.cellss pm) sc [.mk s [] t co0] vs hs (by simp)
 have HU := Fun_c t r.1
 obtain ⟨tk, tn, tm, tl⟩ := t
 obtain ⟨⟨rk, rn, rm, rl⟩, c146⟩ := r
 have hcx := Co.cellss_get (ts := [x]) (i := 0) (t := x) rfl
 obtain ⟨xk, xs, xn, ⟨xtk, xts, xtn, xtl⟩, xus, xks, xal, xbs⟩ := x
 obtain ⟨da, cl, ins⟩ := v
 unfold TypC ckC at *
 simp only [En.cells, List.cons_append, List.nil_append] at *
 refine Zo Tryz.func48 V (by kernel_rfl) V (Xk V) ?_
 refine Ya (Zh (Zd (Za 2 V V V (Yl (cs' := [_, _, _, _, _, _]) V V V V (Za 3 V V V (Yl (cs' := [_, _, _, _, _, _, _, _, _, _, _]) V V V V (Za 4 V V V (Zy (cs' := [_, _, _, _]) V Yy V V ?_)))))))); intro b4
 refine Za 5 V V V (Ze V V (Xg (Zb (Zh (Zd (Za 17 V V V (Yo (ns := []) (xs := []) V Yy V tfl_24 V V V V (Za 6 V V V (Zy (cs' := [_, _, _, _]) V Yy V V ?_))))))))); intro b6
 refine Yf V V (Zw (cs' := [_, _, _, _]) (i := 0) V Yx V V V V V (Xk V) V (Xg (Zb (Zh (Zh (Zd (Za 18 V V V (Zg V tf_29_4 V V (Za 19 V V V (Zk V Xc V V (Za 20 V V V (Xb (fs := []) (cs := [.tmp 2]) V V V (Za 21 V V V (Yh (xs := [.tmp 19, .tmp 20]) V V (HA) by1 ?_)))))))))))))); intro c21 h21
 refine Za 22 V V V (Yn V V ?_); intro c22 h22
 try replace h22 := nott h22 h21
 refine Xg (Zb ?_)
 rcases Zj h22 with ⟨rfl, g22⟩ | ⟨rfl, g22⟩
 ·refine Zp V (Yb (Zb (Zh (Zh (Zd (Za 24 V V V (Zg V tf_29_0 V V (Za 25 V V V (Zk V ta_3 V V (Xg (Zb (Yc (Zh (Zd (Za 27 V V V (op_eql V V V ?_)))))))))))))))); intro c27 h27
  refine Za 26 V V V (Ze V V (Xg (Zb ?_)))
  rcases Zj h27 with ⟨rfl, g27⟩ | ⟨rfl, g27⟩
  ·refine Zp V (Zh (Zd (Za 56 V V V (op_eql V V V ?_)))); intro c56 h56
   refine Za 55 V V V (Ze V V (Xg (Zb ?_)))
   rcases Zj h56 with ⟨rfl, g56⟩ | ⟨rfl, g56⟩
   ·refine Zp V (Zh (Zd (Za 59 V V V (op_eql V V V ?_)))); intro c59 h59
    refine Za 58 V V V (Ze V V (Xg (Zb ?_)))
    rcases Zj h59 with ⟨rfl, g59⟩ | ⟨rfl, g59⟩
    ·refine Zp V (Zh (Zd (Za 62 V V V (op_eql V V V ?_)))); intro c62 h62
     refine Za 61 V V V (Ze V V (Xg (Zb ?_)))
     rcases Zj h62 with ⟨rfl, g62⟩ | ⟨rfl, g62⟩
     ·refine Zp V (Zh (Zd (Za 69 V V V (op_eql V V V ?_)))); intro c69 h69
      refine Za 68 V V V (Ze V V (Xg (Zb ?_)))
      rcases Zj h69 with ⟨rfl, g69⟩ | ⟨rfl, g69⟩
      ·refine Zp V (Zh (Zd (Za 114 V V V (op_eql V V V ?_)))); intro c114 h114
       refine Za 113 V V V (Ze V V (Xg (Zb ?_)))
       rcases Zj h114 with ⟨rfl, g114⟩ | ⟨rfl, g114⟩
       ·exact absurd V g114
       refine Zq V (Zh (Zh (Xe 129 (False) ?_ _ _ V ?_)))
       ·skip
        refine Za 115 V V V (Zg V tf_29_5 V V (Za 116 V V V (Zk V ta_25 V V ?_)))
        refine Za 117 V V V (Yi V tu_25 V (.seq _ _) (fun n117 => ?_))
        refine Za 118 V V V (Xd V V V ?_); intro c118 h118
        refine Za 119 V V V (Zf V V ?_)
        rcases Zj h118 with ⟨rfl, g118⟩ | ⟨rfl, g118⟩
        ·skip
         refine Zi 120 V V V V V (Zg V tf_92_1 V V (Zi 121 V V V V V (Zn (cs' := [_, _, _]) V ta_41 V V V (Zi 122 V V V V V (Zg V tf_92_0 V V (Zi 123 V V V V V (Zg V tf_89_1 V V (Zi 124 V V V V V (Zk V ta_44 V V (Zi 125 V V V V V (Zg V tf_29_3 V V (Zi 126 V V V V V (Zn (cs' := [_, _, _, _]) V Ye V V V (Zi 127 V V V V V (Yh (xs := [.tmp 121, .tmp 124, .tmp 126]) V V (HR) by1 ?_))))))))))))))); intro c127 h127
         refine Zi 128 V V V V V (Yn V V ?_); intro c128 h128
         try replace h128 := nott h128 h127
         refine Za 129 V V V (Zl V V V (Xg (Xj V ?_ by5 by3)))
         first | (simp_all [Co.cellss]; done) | grind
        skip
        refine Zc 120 V V V V V (Zc 121 V V V V V (Zc 122 V V V V V (Zc 123 V V V V V (Zc 124 V V V V V (Zc 125 V V V V V (Zc 126 V V V V V (Zc 127 V V V V V (Zc 128 V V V V V (Za 129 V V V (Zl V V V (Xg (Xj V ?_ by5 by3))))))))))))
        first | (simp_all [Co.cellss]; done) | grind
       intro c129 h129
       refine Zb ?_
       rcases Zj h129 with ⟨rfl, g129⟩ | ⟨rfl, g129⟩
       ·refine Zp V (Yb (Zb (Zh (c_drawnE [0, 1, 2, 3, 4, 5, 6, 7, 8, 9, 10, 11, 12, 13, 14, 15, 16, 17, 18] [16, 17] [[], [], [1], [], [3], [1, 2, 3, 4], [1, 2, 3, 4, 5], [0, 1, 2, 3, 4, 5, 6], [], [8], [8, 9], [8, 9, 10], [0, 1, 2, 3, 4, 5, 6, 7, 8, 9, 10, 11], [0, 1, 2, 3, 4, 5, 6, 7, 8, 9, 10, 11, 12], [0, 1, 2, 3, 4, 5, 6, 7, 8, 9, 10, 11, 12, 13], [0, 1, 2, 3, 4, 5, 6, 7, 8, 9, 10, 11, 12, 13], [], [0, 1, 2, 3, 4, 5, 6, 7, 8, 9, 10, 11, 12, 13, 14, 16], [0, 1, 2, 3, 4, 5, 6, 7, 8, 9, 10, 11, 12, 13, 14, 15, 16, 17]] tmix V (Zr 132 (none) (i := 0) V V V V V (Zn (cs' := [_, _, _, _, _, _]) V ta_92 V V V ⟨V, V⟩) ?_)))))
        refine Zr 133 (none) (i := 1) V V V V V (Zg V tf_29_1 V V ⟨V, V⟩) ?_
        refine Zr 134 (none) (i := 2) V V V V V (Zk V ta_9 V V ⟨V, V⟩) ?_
        refine Zr 135 (none) (i := 3) V V V V V (Zg V tf_29_3 V V ⟨V, V⟩) ?_
        refine Zr 136 (none) (i := 4) V V V V V (Zn (cs' := [_, _, _, _]) V Ye V V V ⟨V, V⟩) ?_
        refine Zr 137 (none) (i := 5) V V V V V (Yd (xs := [.tmp 134, .tmp 136]) V V (HM) by1 ⟨V, V⟩) ?_
        refine Zr 138 (none) (i := 6) V V V V V (op_buildSlice (xs := [.tmp 137]) el_27 V V V V V V (Xk V) ⟨V, V⟩) ?_
        refine Zr 139 (none) (i := 7) V V V V V (Yd (xs := [.tmp 132, .tmp 138]) V V (HW) by1 ⟨V, V⟩) ?_
        refine Zr 140 (none) (i := 8) V V V V V (Zg V tf_29_5 V V ⟨V, V⟩) ?_
        refine Zr 141 (none) (i := 9) V V V V V (Zk V ta_25 V V ⟨V, V⟩) ?_
        refine Zr 142 (none) (i := 10) V V V V V (Zz V te_25 V (.seq _ _) V V (hcx) ⟨V, V⟩) ?_
        refine Zr 143 (none) (i := 11) V V V V V (Zn (cs' := [_, _, _, _, _, _, _, _, _, _, _]) V Yz V V V ⟨V, V⟩) ?_
        refine Zr 144 (none) (i := 12) V V V V V (Yd (xs := [.tmp 139, .tmp 143]) V V (IH) by1 ⟨V, V⟩) ?_
        refine Zr 131 (none) (i := 13) V V V V V (Zf V V ⟨V, V⟩) ?_
        refine Zr 145 (none) (i := 14) V V V V V (Ym V V V ⟨V, V⟩) ?_
        refine Zr 146 (none) (i := 15) V V V V V (Ym V V V ⟨V, V⟩) ?_
        refine EOps.nw (i := 16) V V V (Zy (cs' := [_, _, _, _]) V Yy V V (fun b13 => ⟨_, V, ?_⟩))
        refine EOps.w 2 (i := 17) V V V V V (Zw (cs' := [_, _, _, _]) (i := 0) V Yx V V V V V (Xk V) V ⟨_, V, ?_⟩)
        refine Zr 14 (none) (i := 18) V V V V V (Ze V V ⟨V, V⟩) ?_
        show AGo _ _ _ _ _ _ _
        refine Zb (Zh (Zd (Za 147 V V V (Zg V tf_29_3 V V (Za 148 V V V (Zn (cs' := [_, _, _, _]) V Ye V V V (Za 149 V V V (Zt (cs' := [_, _, _, _]) (i := 2) V Ye V V V V (Za 150 V V V (Yd (xs := [.tmp 148, .tmp 149]) V V (HU) by1 ?_))))))))))
        refine Za 151 V V V (Zf V V (Yf V V (Zw (cs' := [_, _, _, _]) (i := 1) V Yx V V V V V (Xk V) V (Za 5 V V V (Ze V V (Xg (Zb (Zx ?_))))))))
        exact out_ct (i := 1) V V V V Ye V by0 (Xh _) ⟨V, V⟩
       exact g129.elim
      omega
     omega
    omega
   omega
  omega
 refine Zq V (Zh ?_)
 exact absurd trivial g22
theorem C_fold {A : Type} {C : Nat → A → Prop} {step : A → Ty → A} (hC : ∀ k acc x, C (k + 1) acc → C k (step acc x)) : ∀ (l : List Ty) (k : Nat) (acc : A), C (l.length + k) acc → C k (l.foldl step acc)
 | [], k, acc, h => by simpa using h
 | x :: l, k, acc, h => by
  rw [List.foldl_cons]
  exact C_fold hC l k _ (hC _ _ _ (by rw [List.length_cons] at h; rwa [show l.length + k + 1 = l.length + 1 + k from by omega]))
theorem walk_c {A : Type} (G : A → Mem → Prop) (C : Nat → A → Prop) (step : A → Ty → A) (f : FuncId) (fs cs : List AV)
    (hf : ∀ k acc x M, C (k + 1) acc → G acc M → ACall Tryz.prog f (fs ++ [.agg (Ty.cells x)] ++ cs) M (fun v M' => v = .tup [] ∧ G (step acc x) M'))
    (hC : ∀ k acc x, C (k + 1) acc → C k (step acc x)) (d : Nat) : ∀ (t : Ty) (acc : A) (k : Nat) (M : Mem), t.size ≤ d → C (t.size + k) acc → G acc M →
     ACall Tryz.prog 168 [.agg t.cells, .clo (.func f) fs cs] M (fun v M' => v = .tup [] ∧ G (t.all.foldl step acc) M') := by
 induction d with
 | zero => intro t acc k M hd; have := Ty.size_pos t; omega
 | succ d ih =>
  rintro ⟨tk, ts, tn, ks⟩ acc k M hd hc hG
  have hl := Ty.cellss_len ks
  rw [Ty.size] at hd hc
  have hc1 : C (Ty.sizes ks + k) (step acc (.mk tk ts tn ks)) := hC _ _ _ (by rwa [show Ty.sizes ks + k + 1 = 1 + Ty.sizes ks + k from by omega])
  refine Zo Tryz.func168 V (by kernel_rfl) V (Xk V) ?_
  refine Ya ?_
  refine c_lena (t := 0) (j := 3) V V (.seq _ _) (fun hmax => ?_)
  refine Zh (Zd (Za 2 V V V (op_boxe (cs' := [_, _, _, _]) V V V V ?_))); intro b2
  refine Xg (Zb (Zh (Zd (Za 6 V V V (Zf V V (Za 7 V V V (Zt (cs' := [_, _, _, _]) (i := 0) V Ye V V V V ?_)))))))
  refine Za 8 V V V (op_callvm (xs := [.tmp 7])  [.loc b2 _] V V V V (hf (Ty.sizes ks + k) acc (.mk tk ts tn ks) M (by rwa [show Ty.sizes ks + k + 1 = 1 + Ty.sizes ks + k from by omega]) hG) (Les.refl _) (fun v8 M8 h8 => ?_))
  refine Xg ?_
  obtain ⟨rfl, hG8⟩ := h8
  refine Zb (Zh (Zd (Za 9 V V V (Zs V Xa V (Za 10 V V V (Yg (i := 0) V Xc V V V ?_))))))
  refine Za 11 V V V (Yi V tu_22 V (.seq _ _) (fun n11 => ?_))
  refine Za 12 V V V (Zf V V (Xg (Zb (Yc ?_))))
  refine c_loop (σ := Nat × Mem) (fun zz => match zz with | (i, Ms) => [(1, .clo (.func f) fs cs), (10, .seq 4 (Ty.cellss ks)), (11, .val (.int .i64 (Ty.cellss ks).length)), (12, .val (.int .i64 i))]) (fun zz => match zz with | (i, Ms) => .loc b2 (Ty.cells (.mk tk ts tn ks)) :: Ms) (fun zz => match zz with | (i, Ms) => i ≤ ks.length ∧ G ((Ty.alls (ks.take i)).foldl step (step acc (.mk tk ts tn ks))) Ms) (fun zz => match zz with | (i, Ms) => ks.length - i) ((0, M8)) ?_ ?_ ?_ ?_
  ·exact ⟨by omega, by simpa [Ty.alls] using hG8⟩
  ·exact by4
  ·exact by3
  rintro ⟨i, Ms⟩ hI
  try dsimp only [List.cons_append, List.nil_append] at hI ⊢
  obtain ⟨hi, hGi⟩ := hI
  refine Zh (Zd (Za 13 V V V (Yr V V V ?_))); intro c13 h13
  refine Xg (Zb (Zh ?_))
  rcases Zj h13 with ⟨rfl, g13⟩ | ⟨rfl, g13⟩
  ·refine Zp V (Yu (Yw (x_lp (Yv (go_end (out_none V (MLe.drop _ (MLe.refl _)) ⟨V, ?_⟩))))))
   rw [Ty.all, List.foldl_cons]
   rwa [List.take_of_length_le (by omega)] at hGi
  refine Zq V (Yb (Zb (Zh (Yc (Zh ?_)))))
  obtain ⟨⟨k', s', n', ks'⟩, hx⟩ := Yj (l := ks) (i := i) (by omega)
  have hcx := Ty.cellss_get hx
  have hsz := Ty.size_at hx
  have hsp : Ty.sizes (ks.take i) + Ty.size (.mk k' s' n' ks') ≤ Ty.sizes ks := by
   have h1 := Ty.sizes_take ks (i + 1)
   rw [take_snoc hx, Ty.sizes_app] at h1
   simpa [Ty.sizes] using h1
  have hCi : C (Ty.size (.mk k' s' n' ks') + (Ty.sizes ks - Ty.sizes (ks.take i) - Ty.size (.mk k' s' n' ks') + k)) ((Ty.alls (ks.take i)).foldl step (step acc (.mk tk ts tn ks))) := by
   refine C_fold hC _ _ _ ?_
   rw [Ty.alls_len]
   rwa [show Ty.sizes (ks.take i) + (Ty.size (.mk k' s' n' ks') + (Ty.sizes ks - Ty.sizes (ks.take i) - Ty.size (.mk k' s' n' ks') + k)) = Ty.sizes ks + k from by omega]
  refine Zd (Za 14 V V V (Zz V te_22 V (.seq _ _) V V (by assumption) ?_))
  refine Za 15 V V V (Zn (cs' := [_, _, _, _]) V Ye V V V (Za 5 V V V (Zy (cs' := [_, _, _, _]) V Yy V V ?_))); intro b5
  refine Yf V V (Zw (cs' := [_, _, _, _]) (i := 0) V Yx V V V V V (Xk V) V (Xg (Zb (Zd (Za 16 V V V (Zt (cs' := [_, _, _, _]) (i := 0) V Ye V V V V (Za 17 V V V (Zf V V ?_))))))))
  refine Za 18 V V V (op_callm (xs := [.tmp 16, .tmp 17])  [.loc b5 _, .loc b2 _] V V V (ih (.mk k' s' n' ks') _ _ Ms (by omega) hCi hGi) (Les.refl _) (fun v18 M18 h18 => ?_))
  refine Xg ?_
  obtain ⟨rfl, hG18⟩ := h18
  refine Yq (Zb (Zd (Za 19 V V V (Yp V V V (Xo _ (by omega)) ?_))))
  refine Za 12 V V V (Zf V V (Xg (go_lp ?_)))
  refine ⟨(i + 1, M18), ⟨by omega, ?_⟩, by simp; omega, by4, ?_⟩
  ·rw [Ty.alls_take ks hx, List.foldl_append]; exact hG18
  exact MLe.drop _ (MLe.cons _ (MLe.refl _))
def GV (b : Nat) (acc : List ByteArray) (M : Mem) : Prop := ∃ u, M = [.loc b [.own u 1 (strs acc)], .own 9 1 u]
theorem VarsF_c (b k : Nat) (acc : List ByteArray) (x : Ty) (M : Mem) (hk : acc.length + (k + 1) ≤ 2000000) (hG : GV b acc M) : ACall Tryz.prog 169 [.agg x.cells, .ptr b 0] M (fun v M' => v = .tup [] ∧ GV b (addVar acc x) M') := by
 obtain ⟨xk, xs, xn, xks⟩ := x
 obtain ⟨u, rfl⟩ := hG
 have hl := strs_len acc
 refine Zo Tryz.func169 V (by kernel_rfl) V (Xk V) ?_
 refine Ya (Zh (Zd (Za 2 V V V (op_boxe (cs' := [_, _, _, _]) V V V V ?_)))); intro b2
 refine Xg (Zb (Zh (Xe 12 (xk = 1 ∧ xs ∉ acc) ?_ _ _ V ?_)))
 ·skip
  refine Za 3 V V V (Zs V tf_24_0 V (Za 4 V V V (Yg (i := 0) V ta_3 V V V (Za 5 V V V (op_eql V V V ?_))))); intro c5 h5
  refine Za 6 V V V (Zf V V ?_)
  rcases Zj h5 with ⟨rfl, g5⟩ | ⟨rfl, g5⟩
  ·skip
   refine Zc 7 V V V V V (Zc 8 V V V V V (Zc 9 V V V V V (Zc 10 V V V V V (Zc 11 V V V V V (Za 12 V V V (Zl V V V (Xg (Xj V ?_ by5 by3))))))))
   simp_all
  skip
  refine Zi 7 V V V V V (Yg (i := 1) V ta_44 V V V (Zi 8 V V V V V (Zs V tf_24_1 V (Zi 9 V V V V V (Yg (i := 0) V ta_9 V V V (Zi 10 V V V V V (Yh (xs := [.tmp 7, .tmp 9]) V V (ContainsS_c acc xs) by1 ?_))))))); intro c10 h10
  refine Zi 11 V V V V V (Yn V V ?_); intro c11 h11
  try replace h11 := nott h11 h10
  refine Za 12 V V V (Zl V V V (Xg (Xj V ?_ by5 by3)))
  simp_all
 intro c12 h12
 refine Zb ?_
 rcases Zj h12 with ⟨rfl, g12⟩ | ⟨rfl, g12⟩
 ·refine Zp V (Yb (go_end ?_))
  rw [addVar_no g12]; exact out_none rfl (MLe.drop _ (MLe.refl _)) ⟨rfl, u, rfl⟩
 refine Zq V (Zd (Za 13 V V V (Yg (i := 1) V ta_44 V V V (Za 14 V V V (Zs V tf_24_1 V (Za 15 V V V (Yg (i := 0) V ta_9 V V V (Za 16 V V V (op_buildSlice (xs := [.tmp 15]) el_44 V V V V V V (Xk V) ?_)))))))))
 refine Za 17 V V V (op_append (i := 2) el_44 V V V V (.seq _ _) (by simp; omega) ?_)
 intro u17
 refine Yf V V (Zw (i := 1) V ts_44 V V V V V (Xk V) V (Xg (go_end ?_)))
 rw [addVar_yes g12]; exact out_none rfl (M' := [.loc b [.own u17 1 (strs (acc ++ [xs]))], .own 9 1 u17]) (MLe.drop _ (MLe.loc _ (Les.cons (Le.own_eq (strs_snoc _ _)) (Les.refl _)) (MLe.refl _))) ⟨rfl, u17, rfl⟩
theorem Vars_c (t : Ty) (hmx : t.size ≤ 1000000) : OCall Tryz.prog 116 [.agg t.cells] 9 1 (strs t.vars) := by
 have W := fun (b : Nat) (M : Mem) (hG : GV b [] M) => walk_c (GV b) (fun k acc => acc.length + k ≤ 2000000) addVar 169 [] [.ptr b 0] (fun k acc x M h1 h2 => VarsF_c b k acc x M h1 h2) (fun k acc x h => by have := addVar_len acc x; omega) t.size t [] 0 M (Nat.le_refl _) (by simp; omega) hG
 obtain ⟨k, s, n, ks⟩ := t
 refine Zo Tryz.func116 V (by kernel_rfl) V (Xk V) ?_
 refine Ya (Zh (Zd (Za 1 V V V (op_boxe (cs' := [_, _, _, _]) V V V V ?_)))); intro b1
 refine Za 2 V V V (Ze V V (Xg (Zb (Zh (Zd (Za 3 V V V (Zy (cs' := [_]) V tz_44 V V ?_))))))); intro b3
 refine Xg (Zb (Zh (c_mem ((MImp.ownNil b3 9 1 _).trans (MImp.perm (by simpa using List.perm_append_comm (l₁ := [_, _]) (l₂ := [_])))) ?_)))
 refine Zd (Za 4 V V V (Zt (cs' := [_, _, _, _]) (i := 0) V Ye V V V V (Za 5 V V V (Xb (fs := []) (cs := [.tmp 3]) V V V ?_))))
 refine Za 6 V V V (op_callm (xs := [.tmp 4, .tmp 5])  [.loc b1 _] V V V (W b3 _ ⟨.slice none 0 0, V⟩) by1 (fun v6 M6 h6 => ?_))
 refine Xg ?_
 obtain ⟨rfl, u, rfl⟩ := h6
 exact Zb (Zh (Zd (Za 7 V V V (Yg (i := 1) V ta_44 V V V (Za 2 V V V (Ze V V (Xg (Zb (Zx (Zv V V (Xi _) by3 ⟨_, V, V⟩))))))))))
abbrev tyN : Ty := .mk 3 ⟨#[73, 110, 116]⟩ 0 []
abbrev tyS : Ty := .mk 3 ⟨#[83, 116, 114, 105, 110, 103]⟩ 0 []
abbrev tyB : Ty := .mk 3 ⟨#[66, 111, 111, 108]⟩ 0 []
abbrev tyU : Ty := .mk 3 ⟨#[85, 110, 105, 116]⟩ 0 []
abbrev tyA : Ty := .mk 1 ⟨#[97]⟩ 0 []
abbrev tyR : Ty := .mk 3 ⟨#[82, 101, 102]⟩ 0 [tyA]
abbrev tfn (a b : Ty) : Ty := .mk 3 arrow 0 [a, b]
abbrev primRows : List (ByteArray × Ty) := [(⟨#[112, 114, 105, 109, 65, 100, 100]⟩, (tfn tyN (tfn tyN tyN))), (⟨#[112, 114, 105, 109, 83, 117, 98]⟩, (tfn tyN (tfn tyN tyN))), (⟨#[112, 114, 105, 109, 77, 117, 108]⟩, (tfn tyN (tfn tyN tyN))), (⟨#[112, 114, 105, 109, 68, 105, 118]⟩, (tfn tyN (tfn tyN tyN))), (⟨#[112, 114, 105, 109, 77, 111, 100]⟩, (tfn tyN (tfn tyN tyN))), (⟨#[112, 114, 105, 109, 69, 113]⟩, (tfn tyN (tfn tyN tyB))), (⟨#[112, 114, 105, 109, 76, 101, 115, 115]⟩, (tfn tyN (tfn tyN tyB))), (⟨#[112, 114, 105, 109, 67, 97, 116]⟩, (tfn tyS (tfn tyS tyS))), (⟨#[112, 114, 105, 109, 83, 97, 109, 101]⟩, (tfn tyS (tfn tyS tyB))), (⟨#[112, 114, 105, 109, 66, 101, 102, 111, 114, 101]⟩, (tfn tyS (tfn tyS tyB))), (⟨#[112, 114, 105, 109, 76, 101, 110]⟩, (tfn tyS tyN)), (⟨#[112, 114, 105, 109, 83, 104, 111, 119]⟩, (tfn tyN tyS)), (⟨#[112, 114, 105, 109, 80, 117, 116]⟩, (tfn tyS tyU)), (⟨#[112, 114, 105, 109, 71, 101, 116]⟩, (tfn tyU tyS)), (⟨#[112, 114, 105, 109, 78, 101, 119]⟩, (tfn tyA tyR)), (⟨#[112, 114, 105, 109, 82, 101, 97, 100]⟩, (tfn tyR tyA)), (⟨#[112, 114, 105, 109, 87, 114, 105, 116, 101]⟩, (tfn tyR (tfn tyA tyU)))]
abbrev rowCells (l : List (ByteArray × Ty)) : List AV := (l.map fun r => .val (.string r.1) :: r.2.cells).flatten
theorem two_c (x y : Ty) : PCall Tryz.prog 167 [.agg x.cells, .agg y.cells] (.agg (tfn x (tfn x y)).cells) := by
 have H1 := Fun_c x y
 have H2 := Fun_c x (tfn x y)
 obtain ⟨k1, s1, n1, l1⟩ := x
 obtain ⟨k2, s2, n2, l2⟩ := y
 refine Zo Tryz.func167 V (by kernel_rfl) V (Xk V) ?_
 refine Ya (Zh (Zd (Za 2 V V V (Yl (cs' := [_, _, _, _]) V V V V (Za 3 V V V (Yl (cs' := [_, _, _, _]) V V V V (Za 4 V V V (Zy (cs' := [_, _, _, _]) V Yy V V ?_)))))))); intro b4
 refine Xg (Zb (Zh (c_drawnE [0, 1, 2, 3, 4, 5] [5] [[], [], [], [1, 2], [0, 1, 2, 3], [0, 1, 2, 3, 4]] tmix V (Zr 5 (none) (i := 0) V V V V V (Zn (cs' := [_, _, _, _]) V Ye V V V ⟨V, V⟩) ?_))))
 refine Zr 6 (none) (i := 1) V V V V V (Zn (cs' := [_, _, _, _]) V Ye V V V ⟨V, V⟩) ?_
 refine Zr 7 (none) (i := 2) V V V V V (Zn (cs' := [_, _, _, _]) V Ye V V V ⟨V, V⟩) ?_
 refine Zr 8 (none) (i := 3) V V V V V (Yd (xs := [.tmp 6, .tmp 7]) V V (H1) by1 ⟨V, V⟩) ?_
 refine Zr 9 (none) (i := 4) V V V V V (Yd (xs := [.tmp 5, .tmp 8]) V V (H2) by1 ⟨V, V⟩) ?_
 refine EOps.w 0 (i := 5) V V V V V (Zw (cs' := [_, _, _, _]) (i := 0) V Yx V V V V V (Xk V) V ⟨_, V, ?_⟩)
 show AGo _ _ _ _ _ _ _
 refine Zb (Zx ?_)
 exact out_cell (i := 0) V V V Ye V by2 by3 ⟨V, V⟩
theorem rows_c : PCall Tryz.prog 115 [] (.agg (rowCells primRows)) := by
 refine Zo Tryz.func115 V (by kernel_rfl) V (Xk V) ?_
 refine Ya (Zh (Zd (Za 0 V V V (Zy (cs' := [_, _, _, _, _, _, _, _, _, _, _, _, _, _, _, _, _, _, _, _, _, _, _, _, _, _, _, _, _, _, _, _, _, _, _, _, _, _, _, _, _, _, _, _, _, _, _, _, _, _, _, _, _, _, _, _, _, _, _, _, _, _, _, _, _, _, _, _, _, _, _, _, _, _, _, _, _, _, _, _, _, _, _, _, _]) V tz_182 V V ?_)))); intro b0
 refine Xg (Zb (Zh (Zd (Za 8 V V V (Yd (xs := [.const (.string ⟨#[73, 110, 116]⟩), .const (.slice none 0 0)]) V V (Con_c ⟨#[73, 110, 116]⟩ [] (by simp)) by1 ?_)))))
 refine Za 9 V V V (Yd (xs := [.const (.string ⟨#[83, 116, 114, 105, 110, 103]⟩), .const (.slice none 0 0)]) V V (Con_c ⟨#[83, 116, 114, 105, 110, 103]⟩ [] (by simp)) by1 ?_)
 refine Za 10 V V V (Yd (xs := [.const (.string ⟨#[66, 111, 111, 108]⟩), .const (.slice none 0 0)]) V V (Con_c ⟨#[66, 111, 111, 108]⟩ [] (by simp)) by1 ?_)
 refine Za 11 V V V (Yd (xs := [.const (.string ⟨#[85, 110, 105, 116]⟩), .const (.slice none 0 0)]) V V (Con_c ⟨#[85, 110, 105, 116]⟩ [] (by simp)) by1 ?_)
 refine Za 1 V V V (Zy (cs' := [_, _, _, _]) V Yy V V ?_); intro b1
 refine Za 2 V V V (Zy (cs' := [_, _, _, _]) V Yy V V ?_); intro b2
 refine Za 3 V V V (Zy (cs' := [_, _, _, _]) V Yy V V ?_); intro b3
 refine Za 4 V V V (Zy (cs' := [_, _, _, _]) V Yy V V ?_); intro b4
 refine Yf V V (Zw (cs' := [_, _, _, _]) (i := 3) V Yx V V V V V (Xk V) V (Yf V V (Zw (cs' := [_, _, _, _]) (i := 2) V Yx V V V V V (Xk V) V (Yf V V (Zw (cs' := [_, _, _, _]) (i := 1) V Yx V V V V V (Xk V) V (Yf V V (Zw (cs' := [_, _, _, _]) (i := 0) V Yx V V V V V (Xk V) V (Xg (Zb (Zh (Zd (Za 12 V V V (Yo (ns := [0, 1]) (xs := [.const (.int .i64 1), .const (.string ⟨#[97]⟩)]) V Yy V tfl_24 V V V V ?_)))))))))))))
 refine Za 5 V V V (Zy (cs' := [_, _, _, _]) V Yy V V ?_); intro b5
 refine Yf V V (Zw (cs' := [_, _, _, _]) (i := 0) V Yx V V V V V (Xk V) V (Xg (Zb (Zh ?_))))
 refine c_le (SLe.refl _) (MLe.loc _ (cs' := tyA.cells) (by repeat' (first | exact Xi _ | exact Le.nil _ | exact Les.refl _ | refine Les.cons ?_ ?_)) (MLe.refl _)) ?_
 refine Zd (Za 13 V V V (Zt (cs' := [_, _, _, _]) (i := 0) V Ye V V V V (Za 14 V V V (op_buildSlice (xs := [.tmp 13]) el_22 V V V V V V (Xk V) (Za 15 V V V (Yd (xs := [.const (.string ⟨#[82, 101, 102]⟩), .tmp 14]) V V (Con_c ⟨#[82, 101, 102]⟩ [tyA] (by simp)) by1 ?_))))))
 refine Za 6 V V V (Zy (cs' := [_, _, _, _]) V Yy V V ?_); intro b6
 refine Yf V V (Zw (cs' := [_, _, _, _]) (i := 0) V Yx V V V V V (Xk V) V (Xg (Zb (Zh (Zd (Za 7 V V V (Ze V V (Xg (Zb (Zh (c_drawnE [0, 1, 2, 3, 4, 5, 6, 7, 8, 9, 10, 11, 12, 13, 14, 15, 16, 17, 18, 19, 20, 21, 22, 23, 24, 25, 26, 27, 28, 29, 30, 31, 32, 33, 34, 35, 36, 37, 38, 39, 40, 41, 42, 43, 44, 45, 46, 47, 48, 49, 50, 51, 52, 53, 54, 55, 56, 57, 58, 59, 60, 61, 62, 63, 64, 65, 66, 67, 68, 69, 70, 71, 72, 73, 74, 75, 76, 77, 78, 79, 80, 81] [81] [[], [], [], [0, 1, 2], [0, 1, 2, 3], [], [], [], [0, 1, 2, 3, 5, 6, 7], [0, 1, 2, 3, 5, 6, 7, 8], [], [], [], [0, 1, 2, 3, 5, 6, 7, 8, 10, 11, 12], [0, 1, 2, 3, 5, 6, 7, 8, 10, 11, 12, 13], [], [], [], [0, 1, 2, 3, 5, 6, 7, 8, 10, 11, 12, 13, 15, 16, 17], [0, 1, 2, 3, 5, 6, 7, 8, 10, 11, 12, 13, 15, 16, 17, 18], [], [], [], [0, 1, 2, 3, 5, 6, 7, 8, 10, 11, 12, 13, 15, 16, 17, 18, 20, 21, 22], [0, 1, 2, 3, 5, 6, 7, 8, 10, 11, 12, 13, 15, 16, 17, 18, 20, 21, 22, 23], [], [], [], [0, 1, 2, 3, 5, 6, 7, 8, 10, 11, 12, 13, 15, 16, 17, 18, 20, 21, 22, 23, 25, 26, 27], [0, 1, 2, 3, 5, 6, 7, 8, 10, 11, 12, 13, 15, 16, 17, 18, 20, 21, 22, 23, 25, 26, 27, 28], [], [], [], [0, 1, 2, 3, 5, 6, 7, 8, 10, 11, 12, 13, 15, 16, 17, 18, 20, 21, 22, 23, 25, 26, 27, 28, 30, 31, 32], [0, 1, 2, 3, 5, 6, 7, 8, 10, 11, 12, 13, 15, 16, 17, 18, 20, 21, 22, 23, 25, 26, 27, 28, 30, 31, 32, 33], [], [], [], [0, 1, 2, 3, 5, 6, 7, 8, 10, 11, 12, 13, 15, 16, 17, 18, 20, 21, 22, 23, 25, 26, 27, 28, 30, 31, 32, 33, 35, 36, 37], [0, 1, 2, 3, 5, 6, 7, 8, 10, 11, 12, 13, 15, 16, 17, 18, 20, 21, 22, 23, 25, 26, 27, 28, 30, 31, 32, 33, 35, 36, 37, 38], [], [], [], [0, 1, 2, 3, 5, 6, 7, 8, 10, 11, 12, 13, 15, 16, 17, 18, 20, 21, 22, 23, 25, 26, 27, 28, 30, 31, 32, 33, 35, 36, 37, 38, 40, 41, 42], [0, 1, 2, 3, 5, 6, 7, 8, 10, 11, 12, 13, 15, 16, 17, 18, 20, 21, 22, 23, 25, 26, 27, 28, 30, 31, 32, 33, 35, 36, 37, 38, 40, 41, 42, 43], [], [], [], [0, 1, 2, 3, 5, 6, 7, 8, 10, 11, 12, 13, 15, 16, 17, 18, 20, 21, 22, 23, 25, 26, 27, 28, 30, 31, 32, 33, 35, 36, 37, 38, 40, 41, 42, 43, 45, 46, 47], [0, 1, 2, 3, 5, 6, 7, 8, 10, 11, 12, 13, 15, 16, 17, 18, 20, 21, 22, 23, 25, 26, 27, 28, 30, 31, 32, 33, 35, 36, 37, 38, 40, 41, 42, 43, 45, 46, 47, 48], [], [], [0, 1, 2, 3, 5, 6, 7, 8, 10, 11, 12, 13, 15, 16, 17, 18, 20, 21, 22, 23, 25, 26, 27, 28, 30, 31, 32, 33, 35, 36, 37, 38, 40, 41, 42, 43, 45, 46, 47, 48, 50, 51], [0, 1, 2, 3, 5, 6, 7, 8, 10, 11, 12, 13, 15, 16, 17, 18, 20, 21, 22, 23, 25, 26, 27, 28, 30, 31, 32, 33, 35, 36, 37, 38, 40, 41, 42, 43, 45, 46, 47, 48, 50, 51, 52], [], [], [0, 1, 2, 3, 5, 6, 7, 8, 10, 11, 12, 13, 15, 16, 17, 18, 20, 21, 22, 23, 25, 26, 27, 28, 30, 31, 32, 33, 35, 36, 37, 38, 40, 41, 42, 43, 45, 46, 47, 48, 50, 51, 52, 54, 55], [0, 1, 2, 3, 5, 6, 7, 8, 10, 11, 12, 13, 15, 16, 17, 18, 20, 21, 22, 23, 25, 26, 27, 28, 30, 31, 32, 33, 35, 36, 37, 38, 40, 41, 42, 43, 45, 46, 47, 48, 50, 51, 52, 54, 55, 56], [], [], [0, 1, 2, 3, 5, 6, 7, 8, 10, 11, 12, 13, 15, 16, 17, 18, 20, 21, 22, 23, 25, 26, 27, 28, 30, 31, 32, 33, 35, 36, 37, 38, 40, 41, 42, 43, 45, 46, 47, 48, 50, 51, 52, 54, 55, 56, 58, 59], [0, 1, 2, 3, 5, 6, 7, 8, 10, 11, 12, 13, 15, 16, 17, 18, 20, 21, 22, 23, 25, 26, 27, 28, 30, 31, 32, 33, 35, 36, 37, 38, 40, 41, 42, 43, 45, 46, 47, 48, 50, 51, 52, 54, 55, 56, 58, 59, 60], [], [], [0, 1, 2, 3, 5, 6, 7, 8, 10, 11, 12, 13, 15, 16, 17, 18, 20, 21, 22, 23, 25, 26, 27, 28, 30, 31, 32, 33, 35, 36, 37, 38, 40, 41, 42, 43, 45, 46, 47, 48, 50, 51, 52, 54, 55, 56, 58, 59, 60, 62, 63], [0, 1, 2, 3, 5, 6, 7, 8, 10, 11, 12, 13, 15, 16, 17, 18, 20, 21, 22, 23, 25, 26, 27, 28, 30, 31, 32, 33, 35, 36, 37, 38, 40, 41, 42, 43, 45, 46, 47, 48, 50, 51, 52, 54, 55, 56, 58, 59, 60, 62, 63, 64], [], [], [0, 1, 2, 3, 5, 6, 7, 8, 10, 11, 12, 13, 15, 16, 17, 18, 20, 21, 22, 23, 25, 26, 27, 28, 30, 31, 32, 33, 35, 36, 37, 38, 40, 41, 42, 43, 45, 46, 47, 48, 50, 51, 52, 54, 55, 56, 58, 59, 60, 62, 63, 64, 66, 67], [0, 1, 2, 3, 5, 6, 7, 8, 10, 11, 12, 13, 15, 16, 17, 18, 20, 21, 22, 23, 25, 26, 27, 28, 30, 31, 32, 33, 35, 36, 37, 38, 40, 41, 42, 43, 45, 46, 47, 48, 50, 51, 52, 54, 55, 56, 58, 59, 60, 62, 63, 64, 66, 67, 68], [], [], [0, 1, 2, 3, 5, 6, 7, 8, 10, 11, 12, 13, 15, 16, 17, 18, 20, 21, 22, 23, 25, 26, 27, 28, 30, 31, 32, 33, 35, 36, 37, 38, 40, 41, 42, 43, 45, 46, 47, 48, 50, 51, 52, 54, 55, 56, 58, 59, 60, 62, 63, 64, 66, 67, 68, 70, 71], [0, 1, 2, 3, 5, 6, 7, 8, 10, 11, 12, 13, 15, 16, 17, 18, 20, 21, 22, 23, 25, 26, 27, 28, 30, 31, 32, 33, 35, 36, 37, 38, 40, 41, 42, 43, 45, 46, 47, 48, 50, 51, 52, 54, 55, 56, 58, 59, 60, 62, 63, 64, 66, 67, 68, 70, 71, 72], [], [], [], [0, 1, 2, 3, 5, 6, 7, 8, 10, 11, 12, 13, 15, 16, 17, 18, 20, 21, 22, 23, 25, 26, 27, 28, 30, 31, 32, 33, 35, 36, 37, 38, 40, 41, 42, 43, 45, 46, 47, 48, 50, 51, 52, 54, 55, 56, 58, 59, 60, 62, 63, 64, 66, 67, 68, 70, 71, 72, 75, 76], [0, 1, 2, 3, 5, 6, 7, 8, 10, 11, 12, 13, 15, 16, 17, 18, 20, 21, 22, 23, 25, 26, 27, 28, 30, 31, 32, 33, 35, 36, 37, 38, 40, 41, 42, 43, 45, 46, 47, 48, 50, 51, 52, 54, 55, 56, 58, 59, 60, 62, 63, 64, 66, 67, 68, 70, 71, 72, 74, 75, 76, 77], [0, 1, 2, 3, 5, 6, 7, 8, 10, 11, 12, 13, 15, 16, 17, 18, 20, 21, 22, 23, 25, 26, 27, 28, 30, 31, 32, 33, 35, 36, 37, 38, 40, 41, 42, 43, 45, 46, 47, 48, 50, 51, 52, 54, 55, 56, 58, 59, 60, 62, 63, 64, 66, 67, 68, 70, 71, 72, 74, 75, 76, 77, 78], [0, 1, 2, 3, 4, 5, 6, 7, 8, 9, 10, 11, 12, 13, 14, 15, 16, 17, 18, 19, 20, 21, 22, 23, 24, 25, 26, 27, 28, 29, 30, 31, 32, 33, 34, 35, 36, 37, 38, 39, 40, 41, 42, 43, 44, 45, 46, 47, 48, 49, 50, 51, 52, 53, 54, 55, 56, 57, 58, 59, 60, 61, 62, 63, 64, 65, 66, 67, 68, 69, 70, 71, 72, 73, 74, 75, 76, 77, 78, 79], [0, 1, 2, 3, 4, 5, 6, 7, 8, 9, 10, 11, 12, 13, 14, 15, 16, 17, 18, 19, 20, 21, 22, 23, 24, 25, 26, 27, 28, 29, 30, 31, 32, 33, 34, 35, 36, 37, 38, 39, 40, 41, 42, 43, 44, 45, 46, 47, 48, 49, 50, 51, 52, 53, 54, 55, 56, 57, 58, 59, 60, 61, 62, 63, 64, 65, 66, 67, 68, 69, 70, 71, 72, 73, 74, 75, 76, 77, 78, 79, 80]] tmix V (Zr 16 (none) (i := 0) V V V V V (Zf V V ⟨V, V⟩) ?_))))))))))))
 refine Zr 17 (some 5) (i := 1) V V V V V (Zt (cs' := [_, _, _, _]) (i := 0) V Ye V V V V ⟨V, V⟩) ?_
 refine Zr 18 (some 5) (i := 2) V V V V V (Zt (cs' := [_, _, _, _]) (i := 0) V Ye V V V V ⟨V, V⟩) ?_
 refine Zr 19 (none) (i := 3) V V V V V (op_callvpp (xs := [.tmp 17, .tmp 18]) V V V (two_c tyN tyN) by1 ⟨V, V⟩) ?_
 refine Zr 20 (none) (i := 4) V V V V V (Yo (ns := [0, 1]) (xs := [.const (.string ⟨#[112, 114, 105, 109, 65, 100, 100]⟩), .tmp 19]) V tz_181 V tfl_181 V V V V ⟨V, V⟩) ?_
 refine Zr 21 (none) (i := 5) V V V V V (Zf V V ⟨V, V⟩) ?_
 refine Zr 22 (some 5) (i := 6) V V V V V (Zt (cs' := [_, _, _, _]) (i := 0) V Ye V V V V ⟨V, V⟩) ?_
 refine Zr 23 (some 5) (i := 7) V V V V V (Zt (cs' := [_, _, _, _]) (i := 0) V Ye V V V V ⟨V, V⟩) ?_
 refine Zr 24 (none) (i := 8) V V V V V (op_callvpp (xs := [.tmp 22, .tmp 23]) V V V (two_c tyN tyN) by1 ⟨V, V⟩) ?_
 refine Zr 25 (none) (i := 9) V V V V V (Yo (ns := [0, 1]) (xs := [.const (.string ⟨#[112, 114, 105, 109, 83, 117, 98]⟩), .tmp 24]) V tz_181 V tfl_181 V V V V ⟨V, V⟩) ?_
 refine Zr 26 (none) (i := 10) V V V V V (Zf V V ⟨V, V⟩) ?_
 refine Zr 27 (some 5) (i := 11) V V V V V (Zt (cs' := [_, _, _, _]) (i := 0) V Ye V V V V ⟨V, V⟩) ?_
 refine Zr 28 (some 5) (i := 12) V V V V V (Zt (cs' := [_, _, _, _]) (i := 0) V Ye V V V V ⟨V, V⟩) ?_
 refine Zr 29 (none) (i := 13) V V V V V (op_callvpp (xs := [.tmp 27, .tmp 28]) V V V (two_c tyN tyN) by1 ⟨V, V⟩) ?_
 refine Zr 30 (none) (i := 14) V V V V V (Yo (ns := [0, 1]) (xs := [.const (.string ⟨#[112, 114, 105, 109, 77, 117, 108]⟩), .tmp 29]) V tz_181 V tfl_181 V V V V ⟨V, V⟩) ?_
 refine Zr 31 (none) (i := 15) V V V V V (Zf V V ⟨V, V⟩) ?_
 refine Zr 32 (some 5) (i := 16) V V V V V (Zt (cs' := [_, _, _, _]) (i := 0) V Ye V V V V ⟨V, V⟩) ?_
 refine Zr 33 (some 5) (i := 17) V V V V V (Zt (cs' := [_, _, _, _]) (i := 0) V Ye V V V V ⟨V, V⟩) ?_
 refine Zr 34 (none) (i := 18) V V V V V (op_callvpp (xs := [.tmp 32, .tmp 33]) V V V (two_c tyN tyN) by1 ⟨V, V⟩) ?_
 refine Zr 35 (none) (i := 19) V V V V V (Yo (ns := [0, 1]) (xs := [.const (.string ⟨#[112, 114, 105, 109, 68, 105, 118]⟩), .tmp 34]) V tz_181 V tfl_181 V V V V ⟨V, V⟩) ?_
 refine Zr 36 (none) (i := 20) V V V V V (Zf V V ⟨V, V⟩) ?_
 refine Zr 37 (some 5) (i := 21) V V V V V (Zt (cs' := [_, _, _, _]) (i := 0) V Ye V V V V ⟨V, V⟩) ?_
 refine Zr 38 (some 5) (i := 22) V V V V V (Zt (cs' := [_, _, _, _]) (i := 0) V Ye V V V V ⟨V, V⟩) ?_
 refine Zr 39 (none) (i := 23) V V V V V (op_callvpp (xs := [.tmp 37, .tmp 38]) V V V (two_c tyN tyN) by1 ⟨V, V⟩) ?_
 refine Zr 40 (none) (i := 24) V V V V V (Yo (ns := [0, 1]) (xs := [.const (.string ⟨#[112, 114, 105, 109, 77, 111, 100]⟩), .tmp 39]) V tz_181 V tfl_181 V V V V ⟨V, V⟩) ?_
 refine Zr 41 (none) (i := 25) V V V V V (Zf V V ⟨V, V⟩) ?_
 refine Zr 42 (some 5) (i := 26) V V V V V (Zt (cs' := [_, _, _, _]) (i := 0) V Ye V V V V ⟨V, V⟩) ?_
 refine Zr 43 (some 3) (i := 27) V V V V V (Zt (cs' := [_, _, _, _]) (i := 0) V Ye V V V V ⟨V, V⟩) ?_
 refine Zr 44 (none) (i := 28) V V V V V (op_callvpp (xs := [.tmp 42, .tmp 43]) V V V (two_c tyN tyB) by1 ⟨V, V⟩) ?_
 refine Zr 45 (none) (i := 29) V V V V V (Yo (ns := [0, 1]) (xs := [.const (.string ⟨#[112, 114, 105, 109, 69, 113]⟩), .tmp 44]) V tz_181 V tfl_181 V V V V ⟨V, V⟩) ?_
 refine Zr 46 (none) (i := 30) V V V V V (Zf V V ⟨V, V⟩) ?_
 refine Zr 47 (some 5) (i := 31) V V V V V (Zt (cs' := [_, _, _, _]) (i := 0) V Ye V V V V ⟨V, V⟩) ?_
 refine Zr 48 (some 3) (i := 32) V V V V V (Zt (cs' := [_, _, _, _]) (i := 0) V Ye V V V V ⟨V, V⟩) ?_
 refine Zr 49 (none) (i := 33) V V V V V (op_callvpp (xs := [.tmp 47, .tmp 48]) V V V (two_c tyN tyB) by1 ⟨V, V⟩) ?_
 refine Zr 50 (none) (i := 34) V V V V V (Yo (ns := [0, 1]) (xs := [.const (.string ⟨#[112, 114, 105, 109, 76, 101, 115, 115]⟩), .tmp 49]) V tz_181 V tfl_181 V V V V ⟨V, V⟩) ?_
 refine Zr 51 (none) (i := 35) V V V V V (Zf V V ⟨V, V⟩) ?_
 refine Zr 52 (some 4) (i := 36) V V V V V (Zt (cs' := [_, _, _, _]) (i := 0) V Ye V V V V ⟨V, V⟩) ?_
 refine Zr 53 (some 4) (i := 37) V V V V V (Zt (cs' := [_, _, _, _]) (i := 0) V Ye V V V V ⟨V, V⟩) ?_
 refine Zr 54 (none) (i := 38) V V V V V (op_callvpp (xs := [.tmp 52, .tmp 53]) V V V (two_c tyS tyS) by1 ⟨V, V⟩) ?_
 refine Zr 55 (none) (i := 39) V V V V V (Yo (ns := [0, 1]) (xs := [.const (.string ⟨#[112, 114, 105, 109, 67, 97, 116]⟩), .tmp 54]) V tz_181 V tfl_181 V V V V ⟨V, V⟩) ?_
 refine Zr 56 (none) (i := 40) V V V V V (Zf V V ⟨V, V⟩) ?_
 refine Zr 57 (some 4) (i := 41) V V V V V (Zt (cs' := [_, _, _, _]) (i := 0) V Ye V V V V ⟨V, V⟩) ?_
 refine Zr 58 (some 3) (i := 42) V V V V V (Zt (cs' := [_, _, _, _]) (i := 0) V Ye V V V V ⟨V, V⟩) ?_
 refine Zr 59 (none) (i := 43) V V V V V (op_callvpp (xs := [.tmp 57, .tmp 58]) V V V (two_c tyS tyB) by1 ⟨V, V⟩) ?_
 refine Zr 60 (none) (i := 44) V V V V V (Yo (ns := [0, 1]) (xs := [.const (.string ⟨#[112, 114, 105, 109, 83, 97, 109, 101]⟩), .tmp 59]) V tz_181 V tfl_181 V V V V ⟨V, V⟩) ?_
 refine Zr 61 (none) (i := 45) V V V V V (Zf V V ⟨V, V⟩) ?_
 refine Zr 62 (some 4) (i := 46) V V V V V (Zt (cs' := [_, _, _, _]) (i := 0) V Ye V V V V ⟨V, V⟩) ?_
 refine Zr 63 (some 3) (i := 47) V V V V V (Zt (cs' := [_, _, _, _]) (i := 0) V Ye V V V V ⟨V, V⟩) ?_
 refine Zr 64 (none) (i := 48) V V V V V (op_callvpp (xs := [.tmp 62, .tmp 63]) V V V (two_c tyS tyB) by1 ⟨V, V⟩) ?_
 refine Zr 65 (none) (i := 49) V V V V V (Yo (ns := [0, 1]) (xs := [.const (.string ⟨#[112, 114, 105, 109, 66, 101, 102, 111, 114, 101]⟩), .tmp 64]) V tz_181 V tfl_181 V V V V ⟨V, V⟩) ?_
 refine Zr 66 (some 4) (i := 50) V V V V V (Zt (cs' := [_, _, _, _]) (i := 0) V Ye V V V V ⟨V, V⟩) ?_
 refine Zr 67 (some 5) (i := 51) V V V V V (Zt (cs' := [_, _, _, _]) (i := 0) V Ye V V V V ⟨V, V⟩) ?_
 refine Zr 68 (none) (i := 52) V V V V V (Yd (xs := [.tmp 66, .tmp 67]) V V (Fun_c tyS tyN) by1 ⟨V, V⟩) ?_
 refine Zr 69 (none) (i := 53) V V V V V (Yo (ns := [0, 1]) (xs := [.const (.string ⟨#[112, 114, 105, 109, 76, 101, 110]⟩), .tmp 68]) V tz_181 V tfl_181 V V V V ⟨V, V⟩) ?_
 refine Zr 70 (some 5) (i := 54) V V V V V (Zt (cs' := [_, _, _, _]) (i := 0) V Ye V V V V ⟨V, V⟩) ?_
 refine Zr 71 (some 4) (i := 55) V V V V V (Zt (cs' := [_, _, _, _]) (i := 0) V Ye V V V V ⟨V, V⟩) ?_
 refine Zr 72 (none) (i := 56) V V V V V (Yd (xs := [.tmp 70, .tmp 71]) V V (Fun_c tyN tyS) by1 ⟨V, V⟩) ?_
 refine Zr 73 (none) (i := 57) V V V V V (Yo (ns := [0, 1]) (xs := [.const (.string ⟨#[112, 114, 105, 109, 83, 104, 111, 119]⟩), .tmp 72]) V tz_181 V tfl_181 V V V V ⟨V, V⟩) ?_
 refine Zr 74 (some 4) (i := 58) V V V V V (Zt (cs' := [_, _, _, _]) (i := 0) V Ye V V V V ⟨V, V⟩) ?_
 refine Zr 75 (some 2) (i := 59) V V V V V (Zt (cs' := [_, _, _, _]) (i := 0) V Ye V V V V ⟨V, V⟩) ?_
 refine Zr 76 (none) (i := 60) V V V V V (Yd (xs := [.tmp 74, .tmp 75]) V V (Fun_c tyS tyU) by1 ⟨V, V⟩) ?_
 refine Zr 77 (none) (i := 61) V V V V V (Yo (ns := [0, 1]) (xs := [.const (.string ⟨#[112, 114, 105, 109, 80, 117, 116]⟩), .tmp 76]) V tz_181 V tfl_181 V V V V ⟨V, V⟩) ?_
 refine Zr 78 (some 2) (i := 62) V V V V V (Zt (cs' := [_, _, _, _]) (i := 0) V Ye V V V V ⟨V, V⟩) ?_
 refine Zr 79 (some 4) (i := 63) V V V V V (Zt (cs' := [_, _, _, _]) (i := 0) V Ye V V V V ⟨V, V⟩) ?_
 refine Zr 80 (none) (i := 64) V V V V V (Yd (xs := [.tmp 78, .tmp 79]) V V (Fun_c tyU tyS) by1 ⟨V, V⟩) ?_
 refine Zr 81 (none) (i := 65) V V V V V (Yo (ns := [0, 1]) (xs := [.const (.string ⟨#[112, 114, 105, 109, 71, 101, 116]⟩), .tmp 80]) V tz_181 V tfl_181 V V V V ⟨V, V⟩) ?_
 refine Zr 82 (some 1) (i := 66) V V V V V (Zt (cs' := [_, _, _, _]) (i := 0) V Ye V V V V ⟨V, V⟩) ?_
 refine Zr 83 (some 0) (i := 67) V V V V V (Zt (cs' := [_, _, _, _]) (i := 0) V Ye V V V V ⟨V, V⟩) ?_
 refine Zr 84 (none) (i := 68) V V V V V (Yd (xs := [.tmp 82, .tmp 83]) V V (Fun_c tyA tyR) by1 ⟨V, V⟩) ?_
 refine Zr 85 (none) (i := 69) V V V V V (Yo (ns := [0, 1]) (xs := [.const (.string ⟨#[112, 114, 105, 109, 78, 101, 119]⟩), .tmp 84]) V tz_181 V tfl_181 V V V V ⟨V, V⟩) ?_
 refine Zr 86 (some 0) (i := 70) V V V V V (Zt (cs' := [_, _, _, _]) (i := 0) V Ye V V V V ⟨V, V⟩) ?_
 refine Zr 87 (some 1) (i := 71) V V V V V (Zt (cs' := [_, _, _, _]) (i := 0) V Ye V V V V ⟨V, V⟩) ?_
 refine Zr 88 (none) (i := 72) V V V V V (Yd (xs := [.tmp 86, .tmp 87]) V V (Fun_c tyR tyA) by1 ⟨V, V⟩) ?_
 refine Zr 89 (none) (i := 73) V V V V V (Yo (ns := [0, 1]) (xs := [.const (.string ⟨#[112, 114, 105, 109, 82, 101, 97, 100]⟩), .tmp 88]) V tz_181 V tfl_181 V V V V ⟨V, V⟩) ?_
 refine Zr 90 (some 0) (i := 74) V V V V V (Zt (cs' := [_, _, _, _]) (i := 0) V Ye V V V V ⟨V, V⟩) ?_
 refine Zr 91 (some 1) (i := 75) V V V V V (Zt (cs' := [_, _, _, _]) (i := 0) V Ye V V V V ⟨V, V⟩) ?_
 refine Zr 92 (some 2) (i := 76) V V V V V (Zt (cs' := [_, _, _, _]) (i := 0) V Ye V V V V ⟨V, V⟩) ?_
 refine Zr 93 (none) (i := 77) V V V V V (Yd (xs := [.tmp 91, .tmp 92]) V V (Fun_c tyA tyU) by1 ⟨V, V⟩) ?_
 refine Zr 94 (none) (i := 78) V V V V V (Yd (xs := [.tmp 90, .tmp 93]) V V (Fun_c tyR (tfn tyA tyU)) by1 ⟨V, V⟩) ?_
 refine Zr 95 (none) (i := 79) V V V V V (Yo (ns := [0, 1]) (xs := [.const (.string ⟨#[112, 114, 105, 109, 87, 114, 105, 116, 101]⟩), .tmp 94]) V tz_181 V tfl_181 V V V V ⟨V, V⟩) ?_
 refine Zr 96 (none) (i := 80) V V V V V (op_build_arr (ns := [0, 1, 2, 3, 4, 5, 6, 7, 8, 9, 10, 11, 12, 13, 14, 15, 16]) (xs := [.tmp 20, .tmp 25, .tmp 30, .tmp 35, .tmp 40, .tmp 45, .tmp 50, .tmp 55, .tmp 60, .tmp 65, .tmp 69, .tmp 73, .tmp 77, .tmp 81, .tmp 85, .tmp 89, .tmp 95]) V tz_182 V tu_182 ts_181 V V V V ⟨V, V⟩) ?_
 refine EOps.w 6 (i := 81) V V V V V (Zw (i := 0) V ts_182 V V V V V (Xk V) V ⟨_, V, ?_⟩)
 show AGo _ _ _ _ _ _ _
 refine Zb (Zx ?_)
 exact out_cell (i := 6) V V V ta_182 V (Xi _) by3 ⟨V, V⟩
theorem rowCells_get : ∀ {l : List (ByteArray × Ty)} {i : Nat} {s : ByteArray} {t : Ty}, l[i]? = some (s, t) → ((rowCells l).drop (i * 5)).take 5 = .val (.string s) :: t.cells
 | [], i, s, t, h => by simp at h
 | (s', ⟨k, n, m, ks⟩) :: l, 0, s, t, h => by
  simp at h; obtain ⟨rfl, rfl⟩ := h
  simp [rowCells, Ty.cells]
 | (s', ⟨k, n, m, ks⟩) :: l, i + 1, s, t, h => by
  have := rowCells_get (l := l) (i := i) (by simpa using h)
  rw [← this]
  have e : (i + 1) * 5 = i * 5 + 5 := by omega
  rw [e]
  simp [rowCells, Ty.cells]
noncomputable def prOf (i : Nat) (r : ByteArray × Ty) : Pm := ⟨r.1, i + 1, r.2.args.length, ⟨r.2.vars, [], r.2⟩⟩
noncomputable def prm : Nat → List (ByteArray × Ty) → List Pm
 | _, [] => []
 | i, r :: rs => prOf i r :: prm (i + 1) rs
theorem prm_take : ∀ (l : List (ByteArray × Ty)) (j i : Nat) (r : ByteArray × Ty), l[i]? = some r → prm j (l.take (i + 1)) = prm j (l.take i) ++ [prOf (j + i) r]
 | [], j, i, r, h => by simp at h
 | x :: l, j, 0, r, h => by simp at h; subst h; simp [prm]
 | x :: l, j, i + 1, r, h => by
  have := prm_take l (j + 1) i r (by simpa using h)
  simp only [List.take_succ_cons, prm, this, List.cons_append]
  rw [Nat.add_right_comm]; rfl
theorem prm_len : ∀ (l : List (ByteArray × Ty)) (j : Nat), (prm j l).length = l.length
 | [], j => rfl
 | x :: l, j => by simp [prm, prm_len l]
noncomputable def prims : List Pm := prm 0 primRows
theorem rows_size : ∀ r ∈ primRows, r.2.size ≤ 100 := by
 simp [Ty.size, Ty.sizes]
theorem Prims_c : PCall Tryz.prog 67 [] (.seq 9 (Pm.cellss prims)) := by
 refine Zo Tryz.func67 V (by kernel_rfl) V (Xk V) ?_
 refine Ya (Zh (Zd (Za 0 V V V (Ze V V (Xg (Zb (Zh (Zd (Za 1 V V V (Ze V V (Xg (Zb (Zh (Zh (ACode.ownNil (t := 1) 187 9 V (Zd (Za 6 V V V (Yd (xs := []) V V (rows_c) by1 ?_))))))))))))))))))
 refine Za 7 V V V (Zf V V (Xg (Zb (Yc ?_))))
 apply c_loopk [1, 2, 3, 4, 5, 7, 8, 9, 10, 11, 12, 13, 14, 15, 16, 17, 18, 19, 20, 21, 22, 23, 24, 25, 26, 27, 28, 29, 30, 31, 32, 33] (σ := Nat × Value) (fun zz => match zz with | (i, u) => [(7, .val (.int .i64 i)), (1, .own u 9 (Pm.cellss (prm 0 (primRows.take i))))]) (fun zz => match zz with | (i, u) => [.own 187 9 u]) (fun zz => match zz with | (i, u) => i ≤ 17) (fun zz => match zz with | (i, u) => 17 - i) ((0, .slice none 0 0))
 ·repeat' (first | exact Xn | apply Xl rfl | apply Xm rfl)
 ·simp
 ·exact by4
 ·exact by3
 rintro ⟨i, u⟩ hI
 try dsimp only [List.cons_append, List.nil_append] at hI ⊢
 refine Zh (Zd (Za 8 V V V (Yr V V V ?_))); intro c8 h8
 refine Xg (Zb (Zh ?_))
 rcases Zj h8 with ⟨rfl, g8⟩ | ⟨rfl, g8⟩
 ·refine Zp V (Yu (Yw (x_lp (Yv (Zb (Zh (Zd (Za 34 V V V (Zf V V (Za 0 V V V (Ze V V (Xg (Zb (Zx (Zv V V ?_ by3 ⟨V, V⟩)))))))))))))))
  rw [show primRows.take i = primRows from List.take_of_length_le (by simp; omega)]
  exact Le.own _ _ _
 refine Zq V (Yb (Zb (Zh (Yc (Zh ?_)))))
 obtain ⟨⟨s, ⟨tk, ts, tn, tks⟩⟩, hx⟩ := Yj (l := primRows) (i := i) (by simp; omega)
 have hc := rowCells_get hx
 have hsz := rows_size _ (Xp hx)
 have hpt := prm_take primRows 0 i _ hx
 have HV := (Vars_c ⟨tk, ts, tn, tks⟩ (by simp only at hsz; omega)).pure
 have HA := Args_c ⟨tk, ts, tn, tks⟩ (by simp only at hsz; omega)
 have hln := prm_len (primRows.take i) 0
 have hcl := Pm.cellss_len (prm 0 (primRows.take i))
 simp only [List.length_take] at hln
 have hal := Ty.cellss_len (Ty.args ⟨tk, ts, tn, tks⟩)
 simp only [prOf, Nat.zero_add] at hpt
 generalize Ty.vars ⟨tk, ts, tn, tks⟩ = vs at *
 generalize Ty.args ⟨tk, ts, tn, tks⟩ = ags at *
 generalize Ty.ans ⟨tk, ts, tn, tks⟩ = an at *
 obtain ⟨ak, as', an, als⟩ := an
 refine Zd (Za 9 V V V (Zf V V (Za 10 V V V (op_index_av (cs' := [_, _, _, _, _]) V tu_182 ta_181 V V V (by omega) (hc) ?_))))
 refine Za 3 V V V (Zy (cs' := [_, _, _, _, _]) V tz_181 V V ?_); intro b3
 refine Za 2 V V V (Ze V V (Yf V V (Zw (cs' := [_, _, _, _, _]) (i := 0) V ts_181 V V V V V (Xk V) V (Xg (Zb (Zh (Zd (Za 12 V V V (Zs V tf_181_1 V (Za 13 V V V (Zt (cs' := [_, _, _, _]) (i := 0) V Ye V V V V (Za 14 V V V (Yd (xs := [.tmp 13]) V V (HA) by1 ?_)))))))))))))
 refine Za 11 V V V (Zf V V (Za 15 V V V (Ym V V V (Za 16 V V V (Ym V V V (Za 5 V V V (Zy (cs' := [_, _, _, _]) V Yy V V ?_))))))); intro b5
 refine Za 4 V V V (Ze V V (Yf V V (Zw (cs' := [_, _, _, _]) (i := 0) V Yx V V V V V (Xk V) V (Xg (Zb (c_drawnE [0, 1, 2, 3, 4, 5, 6, 7, 8, 9, 10, 11, 12, 13, 14, 15, 16] [15] [[], [], [1], [], [3], [], [5], [], [7], [7, 8], [], [10], [7, 8, 9, 10, 11], [1, 2, 3, 4, 5, 6, 7, 8, 9, 10, 11, 12], [1, 2, 3, 4, 5, 6, 7, 8, 9, 10, 11, 12, 13], [0, 1, 2, 3, 4, 5, 6, 7, 8, 9, 10, 11, 12, 13, 14], [0, 1, 2, 3, 4, 5, 6, 7, 8, 9, 10, 11, 12, 13, 14, 15]] tmix V (Zr 17 (none) (i := 0) V V V V V (Zf V V ⟨V, V⟩) ?_)))))))
 refine Zr 18 (none) (i := 1) V V V V V (Zs V tf_181_0 V ⟨V, V⟩) ?_
 refine Zr 19 (some 1) (i := 2) V V V V V (Yg (i := 0) V ta_9 V V V ⟨V, V⟩) ?_
 refine Zr 20 (none) (i := 3) V V V V V (Zf V V ⟨V, V⟩) ?_
 refine Zr 21 (none) (i := 4) V V V V V (Yp V V V (Xo _ (by omega)) ⟨V, V⟩) ?_
 refine Zr 22 (none) (i := 5) V V V V V (Zf V V ⟨V, V⟩) ?_
 refine Zr 23 none (i := 6) V V V V V (Yi V tu_22 V (.seq _ _) (fun _ => ⟨V, V⟩)) ?_
 refine Zr 24 (none) (i := 7) V V V V V (Zs V tf_181_1 V ⟨V, V⟩) ?_
 refine Zr 25 (some 1) (i := 8) V V V V V (Zt (cs' := [_, _, _, _]) (i := 0) V Ye V V V V ⟨V, V⟩) ?_
 refine Zr 26 (none) (i := 9) V V V V V (Yd (xs := [.tmp 25]) V V (HV) by1 ⟨V, V⟩) ?_
 refine Zr 27 (none) (i := 10) V V V V V (Zs V tf_181_1 V ⟨V, V⟩) ?_
 refine Zr 28 (some 1) (i := 11) V V V V V (Zt (cs' := [_, _, _, _]) (i := 0) V Ye V V V V ⟨V, V⟩) ?_
 refine Zr 29 (none) (i := 12) V V V V V (Yo (ns := [0, 2]) (xs := [.tmp 26, .tmp 28]) V tz_185 V tfl_185 V V V V ⟨V, V⟩) ?_
 refine Zr 30 (none) (i := 13) V V V V V (Yo (ns := [0, 1, 2, 3]) (xs := [.tmp 19, .tmp 21, .tmp 23, .tmp 29]) V tz_187 V tfl_187 V V V V ⟨V, V⟩) ?_
 refine Zr 31 (none) (i := 14) V V V V V (op_buildSlice (xs := [.tmp 30]) el_90 V V V V V V (Xk V) ⟨V, V⟩) ?_
 refine EOps.w 2 (i := 15) V V V V V (op_append (i := 0) el_90 V V V V (.seq _ _) (by simp only [List.length_map, List.length_reverse, List.length_cons, List.length_nil]; omega) (fun u32 => ⟨_, V, ?_⟩))
 refine Zr 1 (none) (i := 16) V V V V V (Ze V V ⟨V, V⟩) ?_
 show AGo _ _ _ _ _ _ _
 refine Yq (Zb (Zd (Za 33 V V V (Yp V V V (Xo _ (by omega)) ?_))))
 refine Za 7 V V V (Zf V V (Xg (go_lp ?_)))
 refine ⟨(i + 1, u32), by show i + 1 ≤ 17; omega, by simp; omega, ?_, by3⟩
 refine SLe.cons V (Xi _) (SLe.cons V ?_ by4)
 rw [hpt]
 simp only [Pm.cellss, List.map_append, List.map_cons, List.map_nil]
 exact Le.own_lessA (Less.app (Less.refl _) (Less.cons (Les.cons (Xi _) (Les.cons (Xi _) (Les.cons (Le.ieq (by omega)) (Les.cons (Xi _) (Les.cons (Le.nil _) (Les.refl _)))))) V Less.nil))
theorem coStart_c (v : En) (sc : List Cb) (vs : List ByteArray) : PCall Tryz.prog 40 [.agg v.cells, .seq 17 (Cb.cellss sc), .seq 1 (strs vs)] (.agg (ckC v (Pm.cellss prims) sc vs)) := by
 have HP := Prims_c
 generalize Pm.cellss prims = pm at *
 unfold ckC
 obtain ⟨da, cl, ins⟩ := v
 simp only [En.cells, List.cons_append, List.nil_append] at *
 refine Zo Tryz.func40 V (by kernel_rfl) V (Xk V) ?_
 refine Ya (Zh (Zd (Za 3 V V V (Yl (cs' := [_, _, _]) V V V V (Za 6 V V V (Zy (cs' := [_, _, _, _, _, _]) V tz_92 V V ?_)))))); intro b6
 refine Xg (Zb (Zh (c_drawnE [0, 1, 2, 3, 4, 5, 6] [6] [[], [], [0, 1], [], [], [0, 1, 2, 3, 4], [0, 1, 2, 3, 4, 5]] tmix V (Zr 7 (none) (i := 0) V V V V V (Zf V V ⟨V, V⟩) ?_))))
 refine Zr 8 (none) (i := 1) V V V V V (Zf V V ⟨V, V⟩) ?_
 refine Zr 9 (none) (i := 2) V V V V V (Yo (ns := [0, 1]) (xs := [.tmp 7, .tmp 8]) V tz_89 V tfl_89 V V V V ⟨V, V⟩) ?_
 refine Zr 10 (none) (i := 3) V V V V V (Zn (cs' := [_, _, _]) V ta_41 V V V ⟨V, V⟩) ?_
 refine Zr 11 (none) (i := 4) V V V V V (Yd (xs := []) V V (HP) by1 ⟨V, V⟩) ?_
 refine Zr 12 (none) (i := 5) V V V V V (Yo (ns := [0, 1, 2]) (xs := [.tmp 9, .tmp 10, .tmp 11]) V tz_92 V tfl_92 V V V V ⟨V, V⟩) ?_
 refine EOps.w 0 (i := 6) V V V V V (Zw (cs' := [_, _, _, _, _, _]) (i := 0) V ts_92 V V V V V (Xk V) V ⟨_, V, ?_⟩)
 show AGo _ _ _ _ _ _ _
 refine Zb (Zx ?_)
 exact out_cell (i := 0) V V V ta_92 V by2 (Xh _) ⟨V, V⟩
theorem coType_c (v : En) (sc : List Cb) (vs : List ByteArray) (e : Co) (r : Ty × Bool) (H : TypC v prims sc vs e r) : PCall Tryz.prog 20 [.agg v.cells, .seq 17 (Cb.cellss sc), .seq 1 (strs vs), .agg e.cells] (.tup [.agg (if r.2 = true then r.1 else tyZ).cells, .val (.bool r.2)]) := by
 have HS := coStart_c v sc vs
 unfold TypC ckC at *
 generalize Pm.cellss prims = pm at *
 obtain ⟨⟨rk, rn, rm, rl⟩, c20⟩ := r
 obtain ⟨k, s, n, ⟨tk, ts, tn, tl⟩, us, ks, al, bs⟩ := e
 obtain ⟨da, cl, ins⟩ := v
 simp only [En.cells, List.cons_append, List.nil_append] at *
 refine Zo Tryz.func20 V (by kernel_rfl) V (Xk V) ?_
 refine Ya (Zh (Zd (Za 4 V V V (Yl (cs' := [_, _, _]) V V V V (Za 7 V V V (Yl (cs' := [_, _, _, _, _, _, _, _, _, _, _]) V V V V (Za 8 V V V (Zy (cs' := [_, _, _, _]) V Yy V V ?_)))))))); intro b8
 refine Za 9 V V V (Ze V V (Xg (Zb (Zh (c_drawnE [0, 1, 2, 3, 4, 5, 6, 7, 8, 9, 10, 11] [9, 10] [[], [], [], [0, 1, 2], [], [0, 1, 2, 3, 4], [0, 1, 2, 3, 4, 5], [0, 1, 2, 3, 4, 5, 6], [0, 1, 2, 3, 4, 5, 6], [], [0, 1, 2, 3, 4, 5, 6, 7, 9], [0, 1, 2, 3, 4, 5, 6, 7, 8, 9, 10]] tmix V (Zr 13 (none) (i := 0) V V V V V (Zn (cs' := [_, _, _]) V ta_41 V V V ⟨V, V⟩) ?_))))))
 refine Zr 14 (none) (i := 1) V V V V V (Zf V V ⟨V, V⟩) ?_
 refine Zr 15 (none) (i := 2) V V V V V (Zf V V ⟨V, V⟩) ?_
 refine Zr 16 (none) (i := 3) V V V V V (Yd (xs := [.tmp 13, .tmp 14, .tmp 15]) V V (HS) by1 ⟨V, V⟩) ?_
 refine Zr 17 (none) (i := 4) V V V V V (Zn (cs' := [_, _, _, _, _, _, _, _, _, _, _]) V Yz V V V ⟨V, V⟩) ?_
 refine Zr 18 (none) (i := 5) V V V V V (Yd (xs := [.tmp 16, .tmp 17]) V V (H) by1 ⟨V, V⟩) ?_
 refine Zr 12 (none) (i := 6) V V V V V (Zf V V ⟨V, V⟩) ?_
 refine Zr 19 (none) (i := 7) V V V V V (Ym V V V ⟨V, V⟩) ?_
 refine Zr 20 (none) (i := 8) V V V V V (Ym V V V ⟨V, V⟩) ?_
 refine EOps.nw (i := 9) V V V (Zy (cs' := [_, _, _, _]) V Yy V V (fun b10 => ⟨_, V, ?_⟩))
 refine EOps.w 1 (i := 10) V V V V V (Zw (cs' := [_, _, _, _]) (i := 0) V Yx V V V V V (Xk V) V ⟨_, V, ?_⟩)
 refine Zr 11 (none) (i := 11) V V V V V (Ze V V ⟨V, V⟩) ?_
 show AGo _ _ _ _ _ _ _
 refine Zb (Zh (Zh (Zd (Za 21 V V V (Zf V V (Za 22 V V V (Yn V V ?_))))))); intro c22 h22
 try replace h22 := nott h22 h20
 refine Xg (Zb ?_)
 rcases Zj h22 with ⟨rfl, g22⟩ | ⟨rfl, g22⟩
 ·refine Zp V (Yb (Zb (Zh (Zd (Za 24 V V V (Zt (cs' := [_, _, _, _]) (i := 1) V Ye V V V V (Yf V V (Zw (cs' := [_, _, _, _]) (i := 0) V Yx V V V V V (Xk V) V (Za 9 V V V (Ze V V (Xg (Zb (Zx ?_)))))))))))))
  obtain rfl : c20 = true := by simpa using g22
  exact out_ct (i := 0) V V V V Ye V by0 (Xh _) ⟨V, V⟩
 refine Zq V (Zh (Zd (Za 23 V V V (Yo (ns := []) (xs := []) V Yy V tfl_24 V V V V (Yf V V (Zw (cs' := [_, _, _, _]) (i := 0) V Yx V V V V V (Xk V) V (Za 9 V V V (Ze V V (Xg (Zb (Zx ?_)))))))))))
 obtain rfl : c20 = false := by simpa using g22
 exact out_ct (i := 0) V V V V Ye V by0 (Xh _) ⟨V, V⟩
abbrev kX : ByteArray := ⟨#[120]⟩
abbrev exV : Co := .mk 1 kX 0 tyZ [] [] [] []
abbrev ex21 : Co := .mk 6 kX 0 tInt [] [exV] [] []
theorem ex21_typ : TypC (.mk [] [] []) prims [] [] ex21 (.mk 3 arrow 0 [tInt, tInt], true) := by
 have h1 := typ_var (.mk [] [] []) prims ([] ++ [.mk kX [] tInt co0]) [] 0 kX tyZ [] [] [] [] rfl (by simp) (fun b hb => by
  have : b = .mk kX [] tInt co0 := by
   have : findL kX ([] ++ [.mk kX [] tInt co0]) = some (.mk kX [] tInt co0) := by kernel_rfl
   rw [this] at hb
   exact (Option.some.inj hb).symm
  subst this
  simp [Cb.t, Ty.wd, Ty.wds])
 have h2 : varC ([] ++ [.mk kX [] tInt co0]) kX [] = (tInt, true) := by kernel_rfl
 rw [h2] at h1
 exact typ_lam (.mk [] [] []) prims [] [] 0 kX tInt [] exV [] [] (tInt, true) V (by kernel_rfl) (by simp) h1
theorem awake21_c : BCall Tryz.prog 7 [] True := by
 have HT := coType_c (.mk [] [] []) [] [] ex21 _ ex21_typ
 rw [if_pos rfl] at HT
 have hc1 : (Ty.cellss [tInt, tInt])[1]? = some [.val (.int .i64 3), .val (.string kIntT), .val (.int .i64 0), .seq 4 []] := rfl
 refine Zo Tryz.func7 V (by kernel_rfl) V (Xk V) ?_
 refine Ya (Zh (Zd (Za 0 V V V (Ze V V (Xg (Zb (Zh (Zd (Za 4 V V V (Yo (ns := [0, 1]) (xs := [.const (.int .i64 3), .const (.string ⟨#[73, 110, 116]⟩)]) V Yy V tfl_24 V V V V ?_))))))))))
 refine Za 1 V V V (Zy (cs' := [_, _, _, _]) V Yy V V ?_); intro b1
 refine Yf V V (Zw (cs' := [_, _, _, _]) (i := 0) V Yx V V V V V (Xk V) V (Xg (Zb (Zh (Zd (Za 6 V V V (Yo (ns := []) (xs := []) V tz_41 V tfl_41 V V V V (Za 7 V V V (Zt (cs' := [_, _, _, _]) (i := 0) V Ye V V V V (Za 8 V V V (Yo (ns := [0, 1]) (xs := [.const (.int .i64 1), .const (.string ⟨#[120]⟩)]) V tz_29 V tfl_29 V V V V ?_)))))))))))
 refine Za 9 V V V (op_buildSlice (xs := [.tmp 8]) el_25 V V V V V V (Xk V) (Za 10 V V V (Yo (ns := [0, 1, 3, 5]) (xs := [.const (.int .i64 6), .const (.string ⟨#[120]⟩), .tmp 7, .tmp 9]) V tz_29 V tfl_29 V V V V ?_)))
 refine Za 11 V V V (Yd (xs := [.tmp 6, .const (.slice none 0 0), .const (.slice none 0 0), .tmp 10])  V V HT by0 ?_)
 refine Za 5 V V V (Zf V V (Za 12 V V V (Ym V V V (Za 13 V V V (Ym V V V (Za 2 V V V (Zy (cs' := [_, _, _, _]) V Yy V V ?_))))))); intro b2
 refine Yf V V (Zw (cs' := [_, _, _, _]) (i := 0) V Yx V V V V V (Xk V) V (Za 3 V V V (Ze V V (Xg (Zb (Zh (Xe 0 (True) ?_ _ _ V ?_)))))))
 ·skip
  refine Za 14 V V V (Zf V V (Za 15 V V V (Zf V V (Zi 16 V V V V V (Zs V tf_24_1 V (Zi 17 V V V V V (Yg (i := 0) V ta_9 V V V (Zi 18 V V V V V (op_seql V V V ?_))))))))); intro c18 h18
  refine Za 19 V V V (Zl V V V (Za 20 V V V (Zf V V ?_)))
  rcases Zj h18 with ⟨rfl, g18⟩ | ⟨rfl, g18⟩
  ·exact absurd V g18
  skip
  refine Zi 21 V V V V V (Zs V Xa V (Zi 22 V V V V V (Yg (i := 0) V Xc V V V ?_)))
  refine Zi 23 V V V V V (Yi V tu_22 V (.seq _ _) (fun n23 => ?_))
  refine Zi 24 V V V V V (op_eql V V V ?_); intro c24 h24
  refine Za 25 V V V (Zl V V V (Za 26 V V V (Zf V V ?_)))
  rcases Zj h24 with ⟨rfl, g24⟩ | ⟨rfl, g24⟩
  ·exact absurd V g24
  skip
  refine Zi 27 V V V V V (Zs V Xa V (Zi 28 V V V V V (Yg (i := 0) V Xc V V V (Zi 29 V V V V V (Zz V te_22 V (.seq _ _) V V (hc1) (Zi 30 V V V V V (Zg V tf_24_1 V V (Zi 31 V V V V V (Zk V ta_9 V V (Zi 32 V V V V V (op_seql V V V ?_))))))))))); intro c32 h32
  refine Za 33 V V V (Zl V V V (Za 0 V V V (Ze V V (Xg (Xj V ?_ by5 by3)))))
  first | (simp_all; done) | exact iff_t trivial | exact ⟨fun _ => trivial, fun _ => h32.2 rfl⟩
 intro c0 h0
 exact Zb (Zx (Zv V V (Xi _) (Xh _) ⟨⟨_, h0, V⟩, V⟩))
end Go.Proofs.YteepjjgooplljaaGreat
namespace Go.Proofs.YteepjjgooplljaaGreat
open Go.ChangeShapes Go.WideShapes Go.ChangeAt Go.RowKit
theorem CoreSames_c (x y : Co) (hx : x.Lim) (hy : y.Lim) : ACall Tryz.prog 3 [.agg x.cells, .agg y.cells] [] (fun v _ => v = .val (.bool true)) := by
 have HX := coSmall_c x hx 500 (by omega) (by omega)
 have HY := coSmall_c y hy 500 (by omega) (by omega)
 have hsz := fun h : x.small 500 => (Co.small_size hx (by omega) (by omega) h).1
 have H1 := coSame_c x y
 have H2 := rcoSame_c x y
 have H3 := coSame_c x x
 have H4 := fun h : x.small 500 => coSize_c x.size x (Nat.le_refl _) (by have := hsz h; omega)
 have H5 := fun h : x.small 500 => coAll_c x.size x (Nat.le_refl _) (by have := hsz h; omega)
 have hal := x.all_len
 have hcl := Co.cellss_len x.all
 rw [hal] at hcl
 generalize Co.cellss x.all = al at *
 clear hal hsz hx hy
 generalize x.small 500 = sx at *
 generalize y.small 500 = sy at *
 generalize (x.bare = y.bare) = q at *
 generalize x.size = sz at *
 have H3 : BCall Tryz.prog 9 [.agg x.cells, .agg x.cells] True := by
  rwa [show (x.bare = x.bare) = True from propext ⟨fun _ => trivial, fun _ => rfl⟩] at H3
 obtain ⟨k1, s1, n1, ⟨tk1, ts1, tn1, tl1⟩, us1, ks1, al1, bs1⟩ := x
 obtain ⟨k2, s2, n2, ⟨tk2, ts2, tn2, tl2⟩, us2, ks2, al2, bs2⟩ := y
 refine Zo Tryz.func3 V (by kernel_rfl) V (Xk V) ?_
 refine Ya (Zh (Zd (Za 2 V V V (Yl (cs' := [_, _, _, _, _, _, _, _, _, _, _]) V V V V (Za 3 V V V (Yl (cs' := [_, _, _, _, _, _, _, _, _, _, _]) V V V V (Za 4 V V V (Ze V V (Xg (Zb (Zh (Zh (Zd (Za 5 V V V (Yd (xs := []) V V (awake21_c.yes trivial) by1 ?_)))))))))))))))
 refine Za 6 V V V (Yn V V ?_); intro c6 h6
 try replace h6 := nott h6 h5
 refine Xg (Zb ?_)
 rcases Zj h6 with ⟨rfl, g6⟩ | ⟨rfl, g6⟩
 ·refine Zp V (Yb (Zb (Zh (Zh (Xe 14 (¬ sx ∨ ¬ sy) ?_ _ _ V ?_)))))
  ·skip
   refine Za 7 V V V (Zn (cs' := [_, _, _, _, _, _, _, _, _, _, _]) V Yz V V V (Za 8 V V V (Yh (xs := [.tmp 7, .const (.int .i64 500)]) V V (HX) by1 ?_))); intro c8 h8
   refine Za 9 V V V (Yn V V ?_); intro c9 h9
   try replace h9 := nott h9 h8
   refine Za 10 V V V (Zf V V ?_)
   rcases Zj h9 with ⟨rfl, g9⟩ | ⟨rfl, g9⟩
   ·skip
    refine Zi 11 V V V V V (Zn (cs' := [_, _, _, _, _, _, _, _, _, _, _]) V Yz V V V (Zi 12 V V V V V (Yh (xs := [.tmp 11, .const (.int .i64 500)]) V V (HY) by1 ?_))); intro c12 h12
    refine Zi 13 V V V V V (Yn V V ?_); intro c13 h13
    try replace h13 := nott h13 h12
    refine Za 14 V V V (Zl V V V (Xg (Xj V ?_ by5 by3)))
    clear HX HY H1 H2 H3 H4 H5; first | (simp_all; done) | grind
   skip
   refine Zc 11 V V V V V (Zc 12 V V V V V (Zc 13 V V V V V (Za 14 V V V (Zl V V V (Xg (Xj V ?_ by5 by3))))))
   clear HX HY H1 H2 H3 H4 H5; first | (simp_all; done) | grind
  intro c14 h14
  refine Zb ?_
  rcases Zj h14 with ⟨rfl, g14⟩ | ⟨rfl, g14⟩
  ·refine Zp V (Yb (Zb (Zh ?_)))
   have hs : sx := by
    clear HX HY H1 H2 H3 H4 H5
    exact Classical.not_not.1 fun h => g14 (.inl h)
   have H4 := H4 hs
   have H5 := H5 hs
   refine c_boold 4 (True) tmix V ?_ _ _ V ?_
   ·skip
    refine Zm 15 V V (Zn (cs' := [_, _, _, _, _, _, _, _, _, _, _]) V Yz V V V ⟨V, V⟩) ?_
    refine Zm 16 V V (Zn (cs' := [_, _, _, _, _, _, _, _, _, _, _]) V Yz V V V ⟨V, V⟩) ?_
    refine DOps.cm 17 V V (fun _ q => Yh (xs := [.tmp 15, .tmp 16]) V V (H1) by1 q) ?_; intro c17 h17
    refine Zm 18 V V (Zn (cs' := [_, _, _, _, _, _, _, _, _, _, _]) V Yz V V V ⟨V, V⟩) ?_
    refine Zm 19 V V (Zn (cs' := [_, _, _, _, _, _, _, _, _, _, _]) V Yz V V V ⟨V, V⟩) ?_
    refine DOps.cm 20 V V (fun _ q => Yh (xs := [.tmp 18, .tmp 19]) V V (H2) by1 q) ?_; intro c20 h20
    refine DOps.cm 21 V V (fun _ q => op_beqlc V tu_4 V V q) ?_; intro c21 h21
    refine Zm 22 V V (Zf V V ⟨V, V⟩) ?_
    rcases Zj h21 with ⟨rfl, g21⟩ | ⟨rfl, g21⟩
    ·skip
     refine Zu 23 V V V V (Zu 24 V V V V (Zu 25 V V V V (Zm 26 V V (Zl V V V ⟨V, V⟩) ?_)))
     refine Zm 27 V V (Zf V V ⟨V, V⟩) ?_
     refine Zu 28 V V V V (Zu 29 V V V V (Zu 30 V V V V (Zu 31 V V V V (Zu 32 V V V V (Zu 33 V V V V (Zm 34 V V (Zl V V V ⟨V, V⟩) ?_))))))
     refine Zm 4 V V (Ze V V ⟨V, V⟩) ?_
     show BoolQ _ _ _ _ _ _
     refine Xj V ?_ by5 by3
     clear HX HY H1 H2 H3 H4 H5; first | (simp_all; done) | grind
    skip
    refine Yk 23 V V V V (Zn (cs' := [_, _, _, _, _, _, _, _, _, _, _]) V Yz V V V ⟨V, V⟩) ?_
    refine Yk 24 V V V V (Zn (cs' := [_, _, _, _, _, _, _, _, _, _, _]) V Yz V V V ⟨V, V⟩) ?_
    refine DOps.gtc 25 V V V V (fun _ q => Yh (xs := [.tmp 23, .tmp 24]) V V (H3) by1 q) ?_; intro c25 h25
    refine Zm 26 V V (Zl V V V ⟨V, V⟩) ?_
    refine Zm 27 V V (Zf V V ⟨V, V⟩) ?_
    rcases Zj h25 with ⟨rfl, g25⟩ | ⟨rfl, g25⟩
    ·skip
     refine Zu 28 V V V V (Zu 29 V V V V (Zu 30 V V V V (Zu 31 V V V V (Zu 32 V V V V (Zu 33 V V V V (Zm 34 V V (Zl V V V ⟨V, V⟩) ?_))))))
     refine Zm 4 V V (Ze V V ⟨V, V⟩) ?_
     show BoolQ _ _ _ _ _ _
     refine Xj V ?_ by5 by3
     clear HX HY H1 H2 H3 H4 H5; first | (simp_all; done) | grind
    skip
    refine Yk 28 V V V V (Zn (cs' := [_, _, _, _, _, _, _, _, _, _, _]) V Yz V V V ⟨V, V⟩) ?_
    refine Yk 29 V V V V (Yd (xs := [.tmp 28]) V V (H4) by1 ⟨V, V⟩) ?_
    refine Yk 30 V V V V (Zn (cs' := [_, _, _, _, _, _, _, _, _, _, _]) V Yz V V V ⟨V, V⟩) ?_
    refine Yk 31 V V V V (Yd (xs := [.tmp 30]) V V (H5) by1 ⟨V, V⟩) ?_
    refine Yk 32 V V V V (Yi V tu_25 V (.seq _ _) (fun _ => ⟨V, V⟩)) ?_
    refine DOps.gtc 33 V V V V (fun _ q => op_eql V V V q) ?_; intro c33 h33
    refine Zm 34 V V (Zl V V V ⟨V, V⟩) ?_
    refine Zm 4 V V (Ze V V ⟨V, V⟩) ?_
    show BoolQ _ _ _ _ _ _
    refine Xj V ?_ by5 by3
    clear HX HY H1 H2 H3 H4 H5; first | (simp_all; done) | grind
   intro c4 h4
   exact Zb (Zx (Zv V V (Xi _) (Xh _) (by simp_all)))
  exact Zq V (Zh (Zd (Za 4 V V V (Ze V V (Xg (Zb (Zx (Zv V V (Xi _) (Xh _) V))))))))
 refine Zq V (Zh ?_)
 exact absurd g6 (by simp)
theorem coreSames_own : ownKnob Tryz.prog.godebug = none := by kernel_rfl
theorem coreSames_laidOut : laidOutB Tryz.prog = true := by kernel_rfl
theorem coreSames_lifted (os : Os) (started : os.Started) (H : Type) (enc : TypeId × Value → H) :
    ReturnsInHanded {} Tryz.checked os 3 .any (Rows.coreSamesSpec.pre6 enc Tryz.prog Tryz.f3 Rows.coreSamesRow.domain false) (Rows.coreSamesSpec.post enc Tryz.prog Tryz.f3 false true false false) := by
 refine returnsInHanded_of_change_sized (C := Tryz.checked) coreSames_own started (by kernel_rfl) Tryz.func3
  (ChangeSpec.witness6 (enc := enc) (C := Tryz.checked) false ⟨#[], #[.agg #[.int .i64 0, .string ⟨#[]⟩, .int .i64 0, .int .i64 0, .string ⟨#[]⟩, .int .i64 0, .slice none 0 0, .slice none 0 0, .slice none 0 0, .slice none 0 0, .slice none 0 0], .agg #[.int .i64 0, .string ⟨#[]⟩, .int .i64 0, .int .i64 0, .string ⟨#[]⟩, .int .i64 0, .slice none 0 0, .slice none 0 0, .slice none 0 0, .slice none 0 0, .slice none 0 0]], []⟩ 8 (by kernel_rfl) (by kernel_rfl) (by kernel_rfl) (by kernel_rfl)) ?_
 intro W base args ds gs before hval0 hW hcnd hsz0 _
 have hval : ∀ (j : Nat) t v, Tryz.f3.params[j]? = some t → args[j]? = some v → Value.okWide Tryz.prog W .any base t v := hval0
 have hsz : (DataW.weightsEach Tryz.prog (Tryz.f3.params.toList ++ Rows.coreSamesSpec.plain.varTypes Tryz.prog) (ds ++ gs)).all (· ≤ reachBytes) = true := hsz0
 have hW' := hW
 obtain ⟨p, q, hA0, hV, rfl, hfz, hnd⟩ := hW
 have hA : DataW.TrodAll enc Tryz.prog W 0 (fun _ => true) true Tryz.f3.params.toList args.toList ds p := hA0
 rw [Tryz.params3] at hA hval hsz
 obtain ⟨rfl, rfl⟩ := trodVars_none hV
 obtain ⟨v0, v1, d0, d1, p0, p1, rfl, rfl, rfl, h0, h1⟩ := trodAll_two hA
 obtain ⟨f0, c0, s0, r0, o0, _⟩ := open_two closed21 hsz 0 rfl rfl (by decide) h0
 obtain ⟨f1, c1, s1, r1, o1, _⟩ := open_two closed21 hsz 1 rfl rfl (by decide) h1
 obtain ⟨x, rfl, hx⟩ := shapeL_co _ (by decide) _ _ s0
 obtain ⟨y, rfl, hy⟩ := shapeL_co _ (by decide) _ _ s1
 refine (law_run (CoreSames_c x y hx hy) (.cons (rel_agg' (by rw [Co.cells_len]; decide) r0 o0) (.cons (rel_agg' (by rw [Co.cells_len]; decide) r1 o1) .nil))).mono fun e W' ⟨he, hb⟩ => ?_
 subst he
 exact ⟨_, V, law_post (tb := 4) coreSames_laidOut (by kernel_rfl) (by kernel_rfl) Tryz.underlying4 V V V V hW' hb⟩
theorem coreSames_holds : Rows.CoreSamesSaid :=
 OpenClaim.holds_of_wide 3 Tryz.f3 rfl rfl rfl rfl rfl rfl rfl ⟨rfl, rfl, rfl, rfl, rfl⟩ rfl rfl rfl rfl rfl (by kernel_rfl) Tryz.func3 (by kernel_rfl)
  (of_decide_eq_true (by kernel_rfl)) (by unfold Func.isWrapper; first | (rw [if_pos (by decide +kernel)]; kernel_rfl) | (rw [if_neg (by decide +kernel)]; exact ⟨rfl, rfl⟩))
  (fun os started H enc _ => coreSames_lifted os started H enc)
#print axioms coreSames_holds
end Go.Proofs.YteepjjgooplljaaGreat
