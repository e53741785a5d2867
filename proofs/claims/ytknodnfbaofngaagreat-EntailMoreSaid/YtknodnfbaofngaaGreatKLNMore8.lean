/- EntailMore: of any right declarations what is proved is proved with more givens, holds, and each given is proved. -/
import Derived.Test.YtknodnfbaofngaaGreatKLNMore7
import Derived.Test.YtknodnfbaofngaaGreatChecked
import Derived.Test.YtknodnfbaofngaaGreatRows
namespace Go.Proofs.YtknodnfbaofngaaGreat
open Go.RowKit
set_option maxHeartbeats 4000000 in
set_option maxRecDepth 100000 in
theorem con_c (s : ByteArray) (l : List Ty) : PCall Tryz.prog 23 [.val (.string s), .seq 4 (Ty.cellss l)] (.agg (tyc s l).cells) := by
 simp only [tyc, Ty.cells]
 refine Zw Tryz.func23 J (by kernel_rfl) J (Uc J) ?_
 refine Ye (Zg (Zc (Za 4 J J J (Zy (cs' := [_, _, _, _]) J tz_25 J J ?_)))); intro b4
 refine Vp (Zb (Zg (Zc (Za 5 J J J (Zd J J (Za 6 J J J (Zd J J (Za 7 J J J (Ym (ns := [0, 1, 3]) (xs := [.const (.int .i64 3), .tmp 5, .tmp 6]) J tz_25 J tfl_25 J J J J (Zs J J (Zo (cs' := [_, _, _, _]) (i := 0) J ts_25 J J J J J (Uc J) J (Vp (Zb ?_)))))))))))))
 exact Ya (Yl (i := 0) J J J Xx J (Vw _) (Vr _) ⟨J, J⟩)
set_option maxHeartbeats 4000000 in
set_option maxRecDepth 100000 in
theorem awake_c : BCall Tryz.prog 8 [] True := by
 have HE := Env_c srcB
 rw [src_env] at HE
 have H1 := con_c sInt []
 have H2 := con_c sList [tyc sInt []]
 have HP := Prove_c (envOf srcPg) srcC_ok [] 10 (.mk sEq (tyc sList [tyc sInt []])) (by decide) (by decide)
 rw [src_p1] at HP
 have HQ := Prove_c (envOf srcPg) srcC_ok [.mk sOrd (tyv sa)] 10 (.mk sEq (tyv sa)) (by decide) (by decide)
 rw [src_p2] at HQ
 generalize envOf srcPg = v at *
 obtain ⟨da, cl, ins⟩ := v
 simp only [En.cells, tyc, tyv, Ty.cells, Ty.cellss, Pr.cells, Pf.cells, Pf.cellss, Pr.cellss, List.map] at HE H1 H2 HP HQ
 refine Zw Tryz.func8 J (by kernel_rfl) J (Uc J) ?_
 refine Ye (Zg (Zc (Za 0 J J J (Ze J J (Vp (Zb (Zg (Zc (Za 9 J J J (Yp (xs := [.const (.string ⟨#[100, 97, 116, 97, 32, 76, 105, 115, 116, 32, 97, 32, 61, 32, 78, 105, 108, 32, 124, 32, 67, 111, 110, 115, 32, 97, 32, 40, 76, 105, 115, 116, 32, 97, 41, 59, 32, 99, 108, 97, 115, 115, 32, 69, 113, 32, 97, 32, 119, 104, 101, 114, 101, 32, 101, 110, 100, 59, 32, 99, 108, 97, 115, 115, 32, 79, 114, 100, 32, 97, 32, 102, 114, 111, 109, 32, 69, 113, 32, 119, 104, 101, 114, 101, 32, 101, 110, 100, 59, 32, 105, 110, 115, 116, 97, 110, 99, 101, 32, 69, 113, 32, 73, 110, 116, 32, 119, 104, 101, 114, 101, 32, 101, 110, 100, 59, 32, 105, 110, 115, 116, 97, 110, 99, 101, 32, 69, 113, 32, 40, 76, 105, 115, 116, 32, 97, 41, 32, 102, 114, 111, 109, 32, 69, 113, 32, 97, 32, 119, 104, 101, 114, 101, 32, 101, 110, 100, 59, 32, 105, 110, 115, 116, 97, 110, 99, 101, 32, 79, 114, 100, 32, 40, 76, 105, 115, 116, 32, 97, 41, 32, 102, 114, 111, 109, 32, 79, 114, 100, 32, 97, 32, 119, 104, 101, 114, 101, 32, 101, 110, 100, 59]⟩)]) J J (HE) by1 ?_))))))))))
 refine Za 8 J J J (Zd J J (Za 10 J J J (Ys J J J (Za 11 J J J (Ys J J J (Za 1 J J J (Zy (cs' := [_, _, _]) J tz_38 J J ?_))))))); intro b1
 refine Zs J J (Zo (cs' := [_, _, _]) (i := 0) J ts_38 J J J J J (Uc J) J (Za 2 J J J (Ze J J (Vp (Zb (Zg (Xw [0, 1, 2, 3, 4, 5, 6, 7, 8, 9, 10, 11] [9, 10] [[], [], [1], [1, 2], [1, 2, 3], [0, 1, 2, 3, 4], [0, 1, 2, 3, 4, 5], [0, 1, 2, 3, 4, 5, 6], [0, 1, 2, 3, 4, 5, 6], [], [0, 1, 2, 3, 4, 5, 6, 7, 9], [0, 1, 2, 3, 4, 5, 6, 7, 8, 9, 10]] Wr J (Yb 13 (some 0) (i := 0) J J J J J (Zx (cs' := [_, _, _]) (i := 0) J Xy J J J J ⟨J, J⟩) ?_))))))))
 refine Yb 14 (none) (i := 1) J J J J J (Yp (xs := [.const (.string ⟨#[73, 110, 116]⟩), .const (.slice none 0 0)]) J J (H1) by1 ⟨J, J⟩) ?_
 refine Yb 15 (none) (i := 2) J J J J J (Yi (xs := [.tmp 14]) el_23 J J J J J J (Uc J) ⟨J, J⟩) ?_
 refine Yb 16 (none) (i := 3) J J J J J (Yp (xs := [.const (.string ⟨#[76, 105, 115, 116]⟩), .tmp 15]) J J (H2) by1 ⟨J, J⟩) ?_
 refine Yb 17 (none) (i := 4) J J J J J (Ym (ns := [0, 1]) (xs := [.const (.string ⟨#[69, 113]⟩), .tmp 16]) J tz_27 J tfl_27 J J J J ⟨J, J⟩) ?_
 refine Yb 18 (none) (i := 5) J J J J J (Yp (xs := [.tmp 13, .const (.slice none 0 0), .tmp 17]) J J (HP) by1 ⟨J, J⟩) ?_
 refine Yb 12 (none) (i := 6) J J J J J (Zd J J ⟨J, J⟩) ?_
 refine Yb 19 (none) (i := 7) J J J J J (Ys J J J ⟨J, J⟩) ?_
 refine Yb 20 (none) (i := 8) J J J J J (Ys J J J ⟨J, J⟩) ?_
 refine EOps.nw (i := 9) J J J (Zy (cs' := [_, _, _, _]) J tz_30 J J (fun b3 => ⟨_, J, ?_⟩))
 refine Xn 1 (i := 10) J J J J J (Zo (cs' := [_, _, _, _]) (i := 0) J ts_30 J J J J J (Uc J) J ⟨_, J, ?_⟩)
 refine Yb 4 (none) (i := 11) J J J J J (Ze J J ⟨J, J⟩) ?_
 show AGo _ _ _ _ _ _ _
 refine Zb (Zg (Zc (Za 21 J J J (Ym (ns := [0, 1]) (xs := [.const (.int .i64 1), .const (.string ⟨#[97]⟩)]) J tz_25 J tfl_25 J J J J ?_))))
 refine Za 5 J J J (Zy (cs' := [_, _, _, _]) J tz_25 J J ?_); intro b5
 refine Zs J J (Zo (cs' := [_, _, _, _]) (i := 0) J ts_25 J J J J J (Uc J) J (Vp (Zb (Zg (Zc (Za 23 J J J (Zx (cs' := [_, _, _]) (i := 1) J Xy J J J J (Za 24 J J J (Zx (cs' := [_, _, _, _]) (i := 0) J Xx J J J J (Za 25 J J J (Ym (ns := [0, 1]) (xs := [.const (.string ⟨#[79, 114, 100]⟩), .tmp 24]) J tz_27 J tfl_27 J J J J ?_)))))))))))
 refine Za 26 J J J (Yi (xs := [.tmp 25]) el_22 J J J J J J (Uc J) (Za 27 J J J (Zx (cs' := [_, _, _, _]) (i := 0) J Xx J J J J (Za 28 J J J (Ym (ns := [0, 1]) (xs := [.const (.string ⟨#[69, 113]⟩), .tmp 27]) J tz_27 J tfl_27 J J J J ?_)))))
 refine Za 29 J J J (op_callat [] (xs := [.tmp 23, .tmp 26, .tmp 28])  J J J HQ by0 ?_)
 rintro v29 M29 ⟨rfl, rfl⟩
 refine Za 22 J J J (Zd J J (Za 30 J J J (Ys J J J (Za 31 J J J (Ys J J J (Za 6 J J J (Zy (cs' := [_, _, _, _]) J tz_30 J J ?_))))))); intro b6
 refine Zs J J (Zo (cs' := [_, _, _, _]) (i := 0) J ts_30 J J J J J (Uc J) J (Za 7 J J J (Ze J J (Vp (Zb (Zg (Xm 0 (True) ?_ _ _ J ?_)))))))
 ·skip
  refine Za 32 J J J (Zd J J (Za 33 J J J (Zd J J (Zl 34 J J J J J (Zd J J (Za 35 J J J (Zn J J J (Za 36 J J J (Zd J J (Zl 37 J J J J J (Zd J J ?_)))))))))))
  refine Za 38 J J J (Zn J J J (Za 39 J J J (Zd J J (Zl 40 J J J J J (Zh J tf_30_0 J (Zl 41 J J J J J (Zq (i := 3) J Xb J J J (Zl 42 J J J J J (Yr J J J ?_))))))))); intro c42 h42
  refine Za 43 J J J (Zn J J J (Za 44 J J J (Zd J J ?_)))
  rcases Zi h42 with ⟨rfl, g42⟩ | ⟨rfl, g42⟩
  ·skip
   refine Zk 45 J J J J J (Zk 46 J J J J J (Zk 47 J J J J J (Zk 48 J J J J J (Za 49 J J J (Zn J J J (Za 50 J J J (Zd J J ?_)))))))
   refine Zk 51 J J J J J (Zk 52 J J J J J (Zk 53 J J J J J (Zk 54 J J J J J (Zk 55 J J J J J (Zk 56 J J J J J ?_)))))
   refine Za 57 J J J (Zn J J J (Za 58 J J J (Zd J J (Zk 59 J J J J J (Zk 60 J J J J J (Zk 61 J J J J J (Za 62 J J J (Zn J J J ?_))))))))
   refine Za 63 J J J (Zd J J (Zk 64 J J J J J (Zk 65 J J J J J (Zk 66 J J J J J (Zk 67 J J J J J (Za 68 J J J (Zn J J J ?_)))))))
   refine Za 69 J J J (Zd J J (Zk 70 J J J J J (Zk 71 J J J J J (Zk 72 J J J J J (Zk 73 J J J J J (Zk 74 J J J J J ?_))))))
   refine Zk 75 J J J J J (Za 76 J J J (Zn J J J (Za 0 J J J (Ze J J (Vp (Ua J ?_ by5 by3))))))
   simp_all
  ·skip
   refine Zl 45 J J J J J (Zh J tf_30_3 J (Zl 46 J J J J J (Zq (i := 3) J ta_28 J J J ?_)))
   refine Zl 47 J J J J J (Yy J tu_28 J (.seq _ _) (fun n47 => ?_))
   refine Zl 48 J J J J J (Yr J J J ?_); intro c48 h48
   refine Za 49 J J J (Zn J J J (Za 50 J J J (Zd J J ?_)))
   rcases Zi h48 with ⟨rfl, g48⟩ | ⟨rfl, g48⟩
   ·skip
    refine Zk 51 J J J J J (Zk 52 J J J J J (Zk 53 J J J J J (Zk 54 J J J J J (Zk 55 J J J J J (Zk 56 J J J J J ?_)))))
    refine Za 57 J J J (Zn J J J (Za 58 J J J (Zd J J (Zk 59 J J J J J (Zk 60 J J J J J (Zk 61 J J J J J (Za 62 J J J (Zn J J J ?_))))))))
    refine Za 63 J J J (Zd J J (Zk 64 J J J J J (Zk 65 J J J J J (Zk 66 J J J J J (Zk 67 J J J J J (Za 68 J J J (Zn J J J ?_)))))))
    refine Za 69 J J J (Zd J J (Zk 70 J J J J J (Zk 71 J J J J J (Zk 72 J J J J J (Zk 73 J J J J J (Zk 74 J J J J J ?_))))))
    refine Zk 75 J J J J J (Za 76 J J J (Zn J J J (Za 0 J J J (Ze J J (Vp (Ua J ?_ by5 by3))))))
    simp_all
   ·skip
    refine Zl 51 J J J J J (Zh J tf_30_3 J (Zl 52 J J J J J (Zq (i := 3) J ta_28 J J J ?_)))
    refine Zl 53 J J J J J (Yc (i := 0) J te_28 J (.seq _ _) J J (by first | rfl | assumption) ?_)
    refine Zl 54 J J J J J (Zj J tf_30_0 J J (Zl 55 J J J J J (Zp J Xb J J (Zl 56 J J J J J (Yr J J J ?_))))); intro c56 h56
    refine Za 57 J J J (Zn J J J (Za 58 J J J (Zd J J ?_)))
    rcases Zi h56 with ⟨rfl, g56⟩ | ⟨rfl, g56⟩
    ·skip
     refine Zk 59 J J J J J (Zk 60 J J J J J (Zk 61 J J J J J (Za 62 J J J (Zn J J J (Za 63 J J J (Zd J J (Zk 64 J J J J J ?_)))))))
     refine Zk 65 J J J J J (Zk 66 J J J J J (Zk 67 J J J J J (Za 68 J J J (Zn J J J (Za 69 J J J (Zd J J (Zk 70 J J J J J ?_)))))))
     refine Zk 71 J J J J J (Zk 72 J J J J J (Zk 73 J J J J J (Zk 74 J J J J J (Zk 75 J J J J J (Za 76 J J J (Zn J J J ?_))))))
     refine Za 0 J J J (Ze J J (Vp (Ua J ?_ by5 by3)))
     simp_all
    ·skip
     refine Zl 59 J J J J J (Zh J tf_30_0 J (Zl 60 J J J J J (Zq (i := 0) J Xb J J J (Zl 61 J J J J J (Yr J J J ?_))))); intro c61 h61
     refine Za 62 J J J (Zn J J J (Za 63 J J J (Zd J J ?_)))
     rcases Zi h61 with ⟨rfl, g61⟩ | ⟨rfl, g61⟩
     ·skip
      refine Zk 64 J J J J J (Zk 65 J J J J J (Zk 66 J J J J J (Zk 67 J J J J J (Za 68 J J J (Zn J J J (Za 69 J J J (Zd J J ?_)))))))
      refine Zk 70 J J J J J (Zk 71 J J J J J (Zk 72 J J J J J (Zk 73 J J J J J (Zk 74 J J J J J (Zk 75 J J J J J ?_)))))
      refine Za 76 J J J (Zn J J J (Za 0 J J J (Ze J J (Vp (Ua J ?_ by5 by3)))))
      simp_all
     ·skip
      refine Zl 64 J J J J J (Zh J tf_30_3 J (Zl 65 J J J J J (Zq (i := 0) J ta_28 J J J ?_)))
      refine Zl 66 J J J J J (Yy J tu_28 J (.seq _ _) (fun n66 => ?_))
      refine Zl 67 J J J J J (Yr J J J ?_); intro c67 h67
      refine Za 68 J J J (Zn J J J (Za 69 J J J (Zd J J ?_)))
      rcases Zi h67 with ⟨rfl, g67⟩ | ⟨rfl, g67⟩
      ·skip
       refine Zk 70 J J J J J (Zk 71 J J J J J (Zk 72 J J J J J (Zk 73 J J J J J (Zk 74 J J J J J (Zk 75 J J J J J ?_)))))
       refine Za 76 J J J (Zn J J J (Za 0 J J J (Ze J J (Vp (Ua J ?_ by5 by3)))))
       simp_all
      ·skip
       refine Zl 70 J J J J J (Zh J tf_30_3 J (Zl 71 J J J J J (Zq (i := 0) J ta_28 J J J ?_)))
       refine Zl 72 J J J J J (Yc (i := 0) J te_28 J (.seq _ _) J J (by first | rfl | assumption) ?_)
       refine Zl 73 J J J J J (Zj J tf_30_0 J J (Zl 74 J J J J J (Zp J Xb J J (Zl 75 J J J J J (Yr J J J ?_))))); intro c75 h75
       refine Za 76 J J J (Zn J J J (Za 0 J J J (Ze J J (Vp (Ua J ?_ by5 by3)))))
       simp_all
 intro c0 h0
 exact Zb (Ya (Yh J J (Vw _) by3 ⟨⟨_, h0, J⟩, J⟩))
end Go.Proofs.YtknodnfbaofngaaGreat
namespace Go.Proofs.YtknodnfbaofngaaGreat
open Go.ChangeShapes Go.WideShapes Go.ChangeAt Go.RowKit
set_option maxHeartbeats 4000000 in
set_option maxRecDepth 100000 in
theorem EntailMore_c (s : ByteArray) (a : Ask) (ms : List Pr) : ACall Tryz.prog 5 [.val (.string s), .agg a.cells, .seq 5 (Pr.cellss ms)] [] (fun v _ => v = .val (.bool true)) := by
 have HE := Env_c s
 have HS := askSmall_c a
 have hok := envR_ok (s := s)
 obtain ⟨⟨v, c17⟩, he⟩ : ∃ e, envR s = e := ⟨_, rfl⟩
 rw [he] at HE hok
 simp only [] at HE hok
 clear he
 have HM := fun g : Pr => Small_c g.t 30 (by decide) (by decide)
 have hsz : a.small → a.p.t.size < 31 := fun h => by have := (Ty.small_size (by decide) h.2.2.1).1; omega
 have hgz : a.small → ∀ g ∈ a.gs, g.t.size < 31 := fun h g hg => by have := (Ty.small_size (by decide) (h.1 g hg)).1; omega
 have hg6 : a.small → a.gs.length ≤ 6 := fun h => h.2.1
 have HP := fun (h : c17 = true) (hs : a.small) => Prove_c v (hok h).1 a.gs 31 a.p (hsz hs) (by have := hsz hs; omega)
 have HA := fun (h : c17 = true) (hs : a.small) => Prove_c v (hok h).1 (a.gs ++ ms) 31 a.p (hsz hs) (by have := hsz hs; omega)
 have HH := fun (h : c17 = true) (hs : a.small) => Holds_c v (hok h).1 (a.gs ++ ms) _ (proveF v (a.gs ++ ms) 31 a.p).1 (Nat.le_refl _) a.p (by have := hsz hs; omega)
 have hQ := fun (h : c17 = true) => prove_holds (hok h).1 (gs := a.gs ++ ms) 31 a.p
 have hm := prove_more (v := v) (gs := a.gs) (ms := ms) 31 a.p
 have hG : c17 = true → a.small → ∀ g ∈ a.gs, ∃ x : Pf, PCall Tryz.prog 11 [.agg v.cells, .seq 5 (Pr.cellss (a.gs ++ ms)), .agg g.cells] (.tup [.agg x.cells, .val (.bool true)]) := fun h hs g hg => by
  have := Prove_c v (hok h).1 (a.gs ++ ms) 31 g (hgz hs g hg) (by have := hgz hs g hg; omega)
  rw [(prove_iff (n := 30)).2 (.inl (List.mem_append_left _ hg))] at this
  exact ⟨_, this⟩
 clear hok hsz hgz
 generalize holdsP v (a.gs ++ ms) (proveF v (a.gs ++ ms) 31 a.p).1 a.p = Q at *
 obtain ⟨⟨⟨rk, rn, rc, rl⟩, c13⟩, hr⟩ : ∃ r, proveF v a.gs 31 a.p = r := ⟨_, rfl⟩
 obtain ⟨⟨⟨wk, wn, wc, wl⟩, c15⟩, hw⟩ : ∃ r, proveF v (a.gs ++ ms) 31 a.p = r := ⟨_, rfl⟩
 rw [hr] at HP hm
 rw [hw] at HA HH hQ hm
 simp only [] at hm hQ
 clear hr hw
 have hal : Pr.cellss (a.gs ++ ms) = Pr.cellss a.gs ++ Pr.cellss ms := by simp [Pr.cellss_map]
 generalize hall : a.gs ++ ms = all at *
 clear hall
 generalize a.small = sm at *
 obtain ⟨da, cl, ins⟩ := v
 obtain ⟨gs, ⟨pc, ⟨pk, ps, pn, pl⟩⟩, ⟨xk, xn, xc, xl⟩, deep, most⟩ := a
 have hgl := Pr.cellss_len gs
 have hml := Pr.cellss_len ms
 simp only [Ask.cells, En.cells, Pr.cells, Ty.cells, Pf.cells, List.cons_append, List.nil_append] at *
 refine Zw Tryz.func5 J (by kernel_rfl) J (Uc J) ?_
 refine Ye ?_
 refine c_lens (t := 2) J (.seq _ _) (fun hmax => ?_)
 refine Zg (Zc (Za 4 J J J (Yu (cs' := [_, _, _, _, _, _, _, _, _, _, _, _]) J J J J (Za 6 J J J (Ze J J (Vp (Zb (Zg (Zg (Zc (Za 20 J J J (Yp (xs := []) J J (awake_c.yes trivial) by1 ?_))))))))))))
 refine Za 21 J J J (Xt J J ?_); intro c21 h21
 try replace h21 := nott h21 h20
 refine Vp (Zb ?_)
 rcases Zi h21 with ⟨rfl, g21⟩ | ⟨rfl, g21⟩
 ·refine Zr J (Zv (Zb (Zg (Zc (Za 23 J J J (Zd J J (Za 24 J J J (Yp (xs := [.tmp 23]) J J (HE) by1 ?_))))))))
  refine Za 22 J J J (Zd J J (Za 25 J J J (Ys J J J (Za 26 J J J (Ys J J J (Za 7 J J J (Zy (cs' := [_, _, _]) J tz_38 J J ?_))))))); intro b7
  refine Zs J J (Zo (cs' := [_, _, _]) (i := 0) J ts_38 J J J J J (Uc J) J (Za 8 J J J (Ze J J (Vp (Zb (Zg (Zg (Xm 38 ((c17 = false ∨ ¬ sm) ∨ 6 < ms.length) ?_ _ _ J ?_))))))))
  ·skip
   refine Za 27 J J J (Zd J J (Za 28 J J J (Xt J J ?_))); intro c28 h28
   try replace h28 := nott h28 h26
   refine Za 29 J J J (Zd J J ?_)
   rcases Zi h28 with ⟨rfl, g28⟩ | ⟨rfl, g28⟩
   ·skip
    refine Zl 30 J J J J J (Yd (cs' := [_, _, _, _, _, _, _, _, _, _, _, _]) J ta_32 J J J (Zl 31 J J J J J (Yf (xs := [.tmp 30]) J J (HS) by1 ?_))); intro c31 h31
    refine Zl 32 J J J J J (Xt J J ?_); intro c32 h32
    try replace h32 := nott h32 h31
    refine Za 33 J J J (Zn J J J (Za 34 J J J (Zd J J ?_)))
    rcases Zi h32 with ⟨rfl, g32⟩ | ⟨rfl, g32⟩
    ·skip
     refine Zl 35 J J J J J (Zd J J ?_)
     refine Zl 36 J J J J J (Yy J tu_22 J (.seq _ _) (fun n36 => ?_))
     refine Zl 37 J J J J J (Ww J J J ?_); intro c37 h37
     refine Za 38 J J J (Zn J J J (Vp (Ua J ?_ by5 by3)))
     clear HE HS HP HA HH HM hG; first | (simp_all; done) | (simp_all; omega) | grind
    ·skip
     refine Zk 35 J J J J J (Zk 36 J J J J J (Zk 37 J J J J J (Za 38 J J J (Zn J J J (Vp (Ua J ?_ by5 by3))))))
     clear HE HS HP HA HH HM hG; first | (simp_all; done) | (simp_all; omega) | grind
   ·skip
    refine Zk 30 J J J J J (Zk 31 J J J J J (Zk 32 J J J J J (Za 33 J J J (Zn J J J (Za 34 J J J (Zd J J (Zk 35 J J J J J ?_)))))))
    refine Zk 36 J J J J J (Zk 37 J J J J J (Za 38 J J J (Zn J J J (Vp (Ua J ?_ by5 by3)))))
    clear HE HS HP HA HH HM hG; first | (simp_all; done) | (simp_all; omega) | grind
  intro c38 h38
  refine Zb ?_
  rcases Zi h38 with ⟨rfl, g38⟩ | ⟨rfl, g38⟩
  ·refine Zr J (Zv (Zb (Zg (Zg ?_))))
   obtain ⟨h17, hsm⟩ : c17 = true ∧ sm := by
    clear HE HS HP HA HH HM hG
    cases c17 <;> simp_all
   have hm6 : ms.length ≤ 6 := by
    clear HE HS HP HA HH HM hG
    omega
   have hg6 := hg6 hsm
   have HP1 := HP h17 hsm
   have HA1 := HA h17 hsm
   have HH1 := HH h17 hsm
   have hQ := hQ h17
   have hG := hG h17 hsm
   clear HP HA HH
   refine Zc (Za 39 J J J (Zd J J ?_))
   refine Za 40 J J J (Yy J tu_22 J (.seq _ _) (fun n40 => ?_))
   refine Za 41 J J J (Zd J J (Vp (Zb (Zz ?_))))
   apply Xl [0, 1, 3, 5, 6, 8, 9, 10, 16, 20, 21, 22, 23, 24, 25, 26, 27, 28, 29, 30, 31, 32, 33, 34, 35, 36, 37, 38, 41, 42, 43, 44, 45, 46, 47, 48, 49] (σ := Nat) (fun zz => match zz with | i => [(41, .val (.int .i64 i))]) (fun zz => match zz with | i => i ≤ ms.length) (fun zz => match zz with | i => ms.length - i) (0)
   ·repeat' (first | exact Uf | apply Ud rfl | apply Ue rfl)
   ·exact Nat.zero_le _
   ·exact by4
   rintro i hI
   try dsimp only [List.cons_append, List.nil_append] at hI ⊢
   refine Zg (Zc (Za 42 J J J (Yt J J J ?_))); intro c42 h42
   refine Vp (Zb (Zg ?_))
   rcases Zi h42 with ⟨rfl, g42⟩ | ⟨rfl, g42⟩
   ·refine Zr J (Xc (Xd (Xv (Xe (Zb (Zg (Zc (Za 50 J J J (op_buildSlice_own (xs := []) el_22 J J J J J J (Uc J) ?_))))))))); intro u50
    refine Za 51 J J J (Zj J tf_32_0 J J (Za 52 J J J (Zp J ta_22 J J (Za 53 J J J (Xj (i := 0) el_22 J J J J (.seq _ _) by6 ?_)))))
    intro u53
    refine Za 54 J J J (Zd J J (Za 55 J J J (Xj (i := 0) el_22 J J J J (.seq _ _) by6 ?_)))
    intro u55
    refine Za 11 J J J (Ze J J (Vp (Zb (Zg ?_))))
    rw [show List.map AV.cells ([] : List AV).reverse ++ Pr.cellss gs ++ Pr.cellss ms = Pr.cellss all by rw [hal]; rfl]
    refine Zc (Za 57 J J J (Zx (cs' := [_, _, _]) (i := 1) J Xy J J J J (Za 58 J J J (Zj J tf_32_0 J J (Za 59 J J J (Zp J ta_22 J J (Za 60 J J J (Zj J tf_32_1 J J (Za 61 J J J (Yd (cs' := [_, _, _, _, _]) J ta_27 J J J ?_))))))))))
    refine Za 62 J J J (Yp (xs := [.tmp 57, .tmp 59, .tmp 61]) J J (HP1) by1 ?_)
    refine Za 56 J J J (Zd J J (Za 63 J J J (Ys J J J (Za 64 J J J (Ys J J J (Za 12 J J J (Zy (cs' := [_, _, _, _]) J tz_30 J J ?_))))))); intro b12
    refine Zs J J (Zo (cs' := [_, _, _, _]) (i := 0) J ts_30 J J J J J (Uc J) J (Za 13 J J J (Ze J J (Vp (Zb (Zg (Zc (Za 66 J J J (Zx (cs' := [_, _, _]) (i := 2) J Xy J J J J (Za 67 J J J (Zd J J (Za 68 J J J (Zj J tf_32_1 J J ?_)))))))))))))
    refine Za 69 J J J (Yd (cs' := [_, _, _, _, _]) J ta_27 J J J (Za 70 J J J (Yp (xs := [.tmp 66, .tmp 67, .tmp 69]) J J (HA1) by1 ?_)))
    refine Za 65 J J J (Zd J J (Za 71 J J J (Ys J J J (Za 72 J J J (Ys J J J (Za 14 J J J (Zy (cs' := [_, _, _, _]) J tz_30 J J ?_))))))); intro b14
    refine Zs J J (Zo (cs' := [_, _, _, _]) (i := 0) J ts_30 J J J J J (Uc J) J (Za 15 J J J (Ze J J (Vp (Zb (Zg (Zg (Xm 89 (False) ?_ _ _ J ?_))))))))
    ·skip
     refine Za 73 J J J (Zd J J ?_)
     have h73 : (c13 = true ↔ c13 = true) := Iff.rfl
     refine Za 74 J J J (Zd J J ?_)
     rcases Zi h73 with ⟨rfl, g73⟩ | ⟨rfl, g73⟩
     ·skip
      refine Zk 75 J J J J J (Zk 76 J J J J J (Za 77 J J J (Zn J J J (Za 78 J J J (Zd J J (Zl 79 J J J J J (Zd J J ?_)))))))
      have h79 : (c15 = true ↔ c15 = true) := Iff.rfl
      refine Zl 80 J J J J J (Zd J J ?_)
      rcases Zi h79 with ⟨rfl, g79⟩ | ⟨rfl, g79⟩
      ·skip
       refine Zk 81 J J J J J (Zk 82 J J J J J (Zk 83 J J J J J (Zk 84 J J J J J (Zk 85 J J J J J (Zk 86 J J J J J ?_)))))
       refine Zk 87 J J J J J (Zl 88 J J J J J (Zn J J J (Za 89 J J J (Zn J J J (Vp (Ua J ?_ by5 by3))))))
       clear HE HS HP1 HA1 HH1 HM hG; first | (simp_all; done) | grind
      ·skip
       refine Zl 81 J J J J J (Zx (cs' := [_, _, _]) (i := 3) J Xy J J J J (Zl 82 J J J J J (Zd J J (Zl 83 J J J J J (Zx (cs' := [_, _, _, _]) (i := 0) J Vk J J J J (Zl 84 J J J J J (Zj J tf_32_1 J J (Zl 85 J J J J J (Yd (cs' := [_, _, _, _, _]) J ta_27 J J J (Zl 86 J J J J J (Yf (xs := [.tmp 81, .tmp 82, .tmp 83, .tmp 85]) J J (HH1) by1 ?_))))))))))); intro c86 h86
       refine Zl 87 J J J J J (Xt J J ?_); intro c87 h87
       try replace h87 := nott h87 h86
       refine Zl 88 J J J J J (Zn J J J (Za 89 J J J (Zn J J J (Vp (Ua J ?_ by5 by3)))))
       clear HE HS HP1 HA1 HH1 HM hG; first | (simp_all; done) | grind
     ·skip
      refine Zl 75 J J J J J (Zd J J ?_)
      have h75 : (c15 = true ↔ c15 = true) := Iff.rfl
      refine Zl 76 J J J J J (Xt J J ?_); intro c76 h76
      try replace h76 := nott h76 h72
      refine Za 77 J J J (Zn J J J (Za 78 J J J (Zd J J ?_)))
      rcases Zi h76 with ⟨rfl, g76⟩ | ⟨rfl, g76⟩
      ·skip
       refine Zl 79 J J J J J (Zd J J (Zl 80 J J J J J (Zd J J ?_)))
       rcases Zi h75 with ⟨rfl, g75⟩ | ⟨rfl, g75⟩
       ·skip
        refine Zk 81 J J J J J (Zk 82 J J J J J (Zk 83 J J J J J (Zk 84 J J J J J (Zk 85 J J J J J (Zk 86 J J J J J ?_)))))
        refine Zk 87 J J J J J (Zl 88 J J J J J (Zn J J J (Za 89 J J J (Zn J J J (Vp (Ua J ?_ by5 by3))))))
        clear HE HS HP1 HA1 HH1 HM hG; first | (simp_all; done) | grind
       ·skip
        refine Zl 81 J J J J J (Zx (cs' := [_, _, _]) (i := 3) J Xy J J J J (Zl 82 J J J J J (Zd J J (Zl 83 J J J J J (Zx (cs' := [_, _, _, _]) (i := 0) J Vk J J J J (Zl 84 J J J J J (Zj J tf_32_1 J J (Zl 85 J J J J J (Yd (cs' := [_, _, _, _, _]) J ta_27 J J J (Zl 86 J J J J J (Yf (xs := [.tmp 81, .tmp 82, .tmp 83, .tmp 85]) J J (HH1) by1 ?_))))))))))); intro c86 h86
        refine Zl 87 J J J J J (Xt J J ?_); intro c87 h87
        try replace h87 := nott h87 h86
        refine Zl 88 J J J J J (Zn J J J (Za 89 J J J (Zn J J J (Vp (Ua J ?_ by5 by3)))))
        clear HE HS HP1 HA1 HH1 HM hG; first | (simp_all; done) | grind
      ·skip
       refine Zk 79 J J J J J (Zk 80 J J J J J (Yk 81 J J J J J (Yk 82 J J J J J (Yk 83 J J J J J (Yk 84 J J J J J ?_)))))
       refine Yk 85 J J J J J (Yk 86 J J J J J (Yk 87 J J J J J (Zk 88 J J J J J (Za 89 J J J (Zn J J J (Vp ?_))))))
       refine Ua J ?_ by5 by3
       clear HE HS HP1 HA1 HH1 HM hG; first | (simp_all; done) | grind
    intro c89 h89
    refine Zb ?_
    rcases Zi h89 with ⟨rfl, g89⟩ | ⟨rfl, g89⟩
    ·refine Zr J (Zv (Zb (Zg (Zg (Zc (Za 90 J J J (Zj J tf_32_0 J J (Za 91 J J J (Zp J ta_22 J J ?_)))))))))
     refine Za 92 J J J (Yy J tu_22 J (.seq _ _) (fun n92 => ?_))
     refine Za 93 J J J (Zd J J (Vp (Zb (Zz ?_))))
     apply Xl [0, 1, 2, 3, 4, 5, 6, 8, 9, 10, 12, 13, 14, 15, 16, 17, 18, 19, 20, 21, 22, 23, 24, 25, 26, 27, 28, 29, 30, 31, 32, 33, 34, 35, 36, 37, 38, 39, 40, 41, 42, 43, 44, 45, 46, 47, 48, 49, 50, 51, 52, 53, 54, 55, 56, 57, 58, 59, 60, 61, 62, 63, 64, 65, 66, 67, 68, 69, 70, 71, 72, 73, 74, 75, 76, 77, 78, 79, 80, 81, 82, 83, 84, 85, 86, 87, 88, 89, 90, 93, 94, 95, 96, 97, 98, 99, 100, 101, 102, 103, 104, 105, 106] (σ := Nat) (fun zz => match zz with | k => [(93, .val (.int .i64 k))]) (fun zz => match zz with | k => k ≤ gs.length) (fun zz => match zz with | k => gs.length - k) (0)
     ·repeat' (first | exact Uf | apply Ud rfl | apply Ue rfl)
     ·exact Nat.zero_le _
     ·exact by4
     rintro k hI
     try dsimp only [List.cons_append, List.nil_append] at hI ⊢
     refine Zg (Zc (Za 94 J J J (Yt J J J ?_))); intro c94 h94
     refine Vp (Zb (Zg ?_))
     rcases Zi h94 with ⟨rfl, g94⟩ | ⟨rfl, g94⟩
     ·exact Zr J (Xc (Xd (Xv (Xe (Zb (Zg (Zc (Za 6 J J J (Ze J J (Vp (Zb (Ya (Yh J J (Vw _) (Vr _) J)))))))))))))
     ·refine Zt J (Zv (Zb (Zg (Zz (Zg ?_)))))
      obtain ⟨⟨gc, ⟨gtk, gts, gtn, gtl⟩⟩, hxg⟩ := Yx (l := gs) (i := k) by7
      have hcg := Pr.cellss_get hxg
      have hmg := Uh hxg
      obtain ⟨⟨yk, yn, yc, yl⟩, HG⟩ := hG _ hmg
      simp only [Pf.cells, Ty.cells] at HG
      refine Zc (Za 95 J J J (Yc J te_22 J (.seq _ _) J J (hcg) (Za 96 J J J (Yd (cs' := [_, _, _, _, _]) J ta_27 J J J (Za 17 J J J (Zy (cs' := [_, _, _, _, _]) J tz_27 J J ?_)))))); intro b17
      refine Zs J J (Zo (cs' := [_, _, _, _, _]) (i := 0) J ts_27 J J J J J (Uc J) J (Vp (Zb (Zg (Zc (Za 98 J J J (Zx (cs' := [_, _, _]) (i := 4) J Xy J J J J (Za 99 J J J (Zd J J (Za 100 J J J (Zx (cs' := [_, _, _, _, _]) (i := 0) J ta_27 J J J J (Za 101 J J J (Yp (xs := [.tmp 98, .tmp 99, .tmp 100]) J J (HG) by1 ?_)))))))))))))
      refine Za 97 J J J (Zd J J (Za 102 J J J (Ys J J J (Za 103 J J J (Ys J J J (Za 18 J J J (Zy (cs' := [_, _, _, _]) J tz_30 J J ?_))))))); intro b18
      refine Zs J J (Zo (cs' := [_, _, _, _]) (i := 0) J ts_30 J J J J J (Uc J) J (Za 19 J J J (Ze J J (Vp (Zb (Zg (Zc (Za 104 J J J (Zd J J (Za 105 J J J (Xt J J ?_))))))))))); intro c105 h105
      try replace h105 := nott h105 h103
      refine Vp (Zb ?_)
      rcases Zi h105 with ⟨rfl, g105⟩ | ⟨rfl, g105⟩
      ·refine Zr J (Zv (Yv (Zb (Zc (Za 106 J J J (Yw J J J (Ug _ (by omega)) ?_))))))
       refine Za 93 J J J (Zd J J (Vp (Xa ?_)))
       exact ⟨k + 1, (by show k + 1 ≤ gs.length; omega), by show gs.length - (k + 1) < gs.length - k; omega, by4, by3⟩
      ·refine Zt J (Zg ?_)
       exact absurd g105 (by simp)
    ·exact False.elim g89
   ·refine Zt J (Zv (Zb (Zg (Zz (Zg ?_)))))
    obtain ⟨⟨gc, ⟨gtk, gts, gtn, gtl⟩⟩, hxg⟩ := Yx (l := ms) (i := i) by7
    have hcg := Pr.cellss_get hxg
    have hmg := Uh hxg
    have HMg := HM (Pr.mk gc ⟨gtk, gts, gtn, gtl⟩)
    simp only [Pr.t, Ty.cells] at HMg
    refine Zc (Za 43 J J J (Yc J te_22 J (.seq _ _) J J (hcg) (Za 44 J J J (Yd (cs' := [_, _, _, _, _]) J ta_27 J J J (Za 10 J J J (Zy (cs' := [_, _, _, _, _]) J tz_27 J J ?_)))))); intro b10
    refine Zs J J (Zo (cs' := [_, _, _, _, _]) (i := 0) J ts_27 J J J J J (Uc J) J (Vp (Zb (Zg (Zc (Za 45 J J J (Zh J Wn J (Za 46 J J J (Zx (cs' := [_, _, _, _]) (i := 0) J Xx J J J J (Za 47 J J J (Yf (xs := [.tmp 46, .const (.int .i64 30)]) J J (HMg) by1 ?_))))))))))); intro c47 h47
    refine Za 48 J J J (Xt J J ?_); intro c48 h48
    try replace h48 := nott h48 h47
    refine Vp (Zb ?_)
    rcases Zi h48 with ⟨rfl, g48⟩ | ⟨rfl, g48⟩
    ·refine Zr J (Zv (Yv (Zb (Zc (Za 49 J J J (Yw J J J (Ug _ (by omega)) ?_))))))
     refine Za 41 J J J (Zd J J (Vp (Xa ?_)))
     exact ⟨i + 1, (by show i + 1 ≤ ms.length; omega), by show ms.length - (i + 1) < ms.length - i; omega, by4, by3⟩
    ·exact Zt J (Zg (Zc (Za 6 J J J (Ze J J (Vp (Zb (Ya (Yh J J (Vw _) (Vr _) J))))))))
  ·exact Zt J (Zg (Zc (Za 6 J J J (Ze J J (Vp (Zb (Ya (Yh J J (Vw _) (Vr _) J))))))))
 ·refine Zt J (Zg ?_)
  exact absurd g21 (by simp)
theorem entailMore_own : ownKnob Tryz.prog.godebug = none := by kernel_rfl
theorem entailMore_laidOut : laidOutB Tryz.prog = true := by kernel_rfl
set_option maxRecDepth 100000 in
theorem entailMore_lifted (os : Os) (started : os.Started) (H : Type) (enc : TypeId × Value → H) :
    ReturnsInHanded {} Tryz.checked os 5 .any (Rows.entailMoreSpec.pre6 enc Tryz.prog Tryz.f5 Rows.entailMoreRow.domain false) (Rows.entailMoreSpec.post enc Tryz.prog Tryz.f5 false true false false) := by
 refine returnsInHanded_of_change_sized (C := Tryz.checked) entailMore_own started (by kernel_rfl) Tryz.func5
  (ChangeSpec.witness6 (enc := enc) (C := Tryz.checked) false ⟨#[], #[.string ⟨#[]⟩, .agg #[.slice none 0 0, .string ⟨#[]⟩, .int .i64 0, .string ⟨#[]⟩, .int .i64 0, .slice none 0 0, .int .i64 0, .int .i64 0, .string ⟨#[]⟩, .slice none 0 0, .int .i64 0, .int .i64 0], .slice none 0 0], []⟩ 8 (by kernel_rfl) (by kernel_rfl) (by kernel_rfl) (by kernel_rfl)) ?_
 intro W base args ds gs before hval0 hW hcnd hsz0 _
 have hval : ∀ (j : Nat) t v, Tryz.f5.params[j]? = some t → args[j]? = some v → Value.okWide Tryz.prog W .any base t v := hval0
 have hsz : (DataW.weightsEach Tryz.prog (Tryz.f5.params.toList ++ Rows.entailMoreSpec.plain.varTypes Tryz.prog) (ds ++ gs)).all (· ≤ reachBytes) = true := hsz0
 have hW' := hW
 obtain ⟨p, q, hA0, hV, rfl, hfz, hnd⟩ := hW
 have hA : DataW.TrodAll enc Tryz.prog W 0 (fun _ => true) true Tryz.f5.params.toList args.toList ds p := hA0
 rw [Tryz.params5] at hA hval hsz
 obtain ⟨rfl, rfl⟩ := trodVars_none hV
 obtain ⟨v0, v1, v2, d0, d1, d2, p0, p1, p2, rfl, rfl, rfl, h0, h1, h2⟩ := trodAll_three hA
 obtain ⟨f0, c0, s0, r0, o0⟩ := open_one closed12 (by decide) h0
 obtain ⟨s, l0, rfl⟩ := shape_str Wp s0
 obtain ⟨f1, c1, s1, r1, o1⟩ := open_one closed12 (by decide) h1
 obtain ⟨a, rfl⟩ := shape_ask s1
 obtain ⟨f2, c2, s2, r2, o2⟩ := open_one closed12 (by decide) h2
 obtain ⟨ms, rfl⟩ := shape_prs s2
 refine (law_run (EntailMore_c s a ms) (.cons (rel_cell (okw_str Tryz.underlying9 (hval 0 9 v0 rfl rfl)) r0) (.cons (rel_agg' (by rw [Ask.cells_len]; decide) r1 o1) (.cons (rel_cell (okw_slice Tryz.underlying22 (hval 2 22 v2 rfl rfl)) r2) .nil)))).mono fun e W' ⟨he, hb⟩ => ?_
 subst he
 exact ⟨_, J, law_post (tb := 4) entailMore_laidOut (by kernel_rfl) (by kernel_rfl) Tryz.underlying4 J J J J hW' hb⟩
theorem entailMore_holds : Rows.EntailMoreSaid :=
 OpenClaim.holds_of_wide 5 Tryz.f5 rfl rfl rfl rfl rfl rfl rfl ⟨rfl, rfl, rfl, rfl, rfl⟩ rfl rfl rfl rfl rfl (by kernel_rfl) Tryz.func5 (by kernel_rfl)
  (of_decide_eq_true (by kernel_rfl)) (by unfold Func.isWrapper; first | (rw [if_pos (by decide +kernel)]; kernel_rfl) | (rw [if_neg (by decide +kernel)]; exact ⟨rfl, rfl⟩))
  (fun os started H enc _ => entailMore_lifted os started H enc)
#print axioms entailMore_holds
end Go.Proofs.YtknodnfbaofngaaGreat
