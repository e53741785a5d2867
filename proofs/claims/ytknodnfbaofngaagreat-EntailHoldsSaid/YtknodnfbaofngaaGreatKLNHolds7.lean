/- Parts of a proof: Holds of the document; the examples' source, as tokens; the examples' source, parsed; the examples' declarations are right; operations that are guarded, in a drawn region that writes; the document's parser: next, is; the document's parser: fail, take, may, deeper; the document's parser: name, uppers, starts; the document's parser: atype, Type; the document's parser: apat, pat; fix.Level; cognateref04.Level; the document's operators: Level, Side, Clash; the document's parser: Build; the document's parser: bind, lambda; the document's parser: atom; the document's parser: atom, in brackets -/
import Derived.Test.YtknodnfbaofngaaGreatKLNHolds6
namespace Go.Proofs.YtknodnfbaofngaaGreat
open Go.RowKit
set_option maxHeartbeats 4000000 in
set_option maxRecDepth 100000 in
theorem rHolds1_in (v : En) (gs : List Pr) (i : Nat) (g : Pr) (hg : gs[i]? = some g) (c : ByteArray) (ks : List Pf) (p : Pr) : BCall Tryz.prog 15 [.agg v.cells, .seq 5 (Pr.cellss gs), .agg (Pf.mk 1 i c ks).cells, .agg p.cells] (c = kE ∧ ks.length = 0 ∧ g = p) := by
 have H := rSame_c g p
 obtain ⟨q, hq⟩ : ∃ q : Prop, (g = p) = q := ⟨_, rfl⟩
 rw [hq] at H ⊢
 clear hq
 have hgl := Pr.cellss_len gs
 have hkl := Pf.cellss_len ks
 have hcg := Pr.cellss_get hg
 have hi := Vf hg
 obtain ⟨gc, ⟨gtk, gts, gtn, gtl⟩⟩ := g
 obtain ⟨pc, ⟨pk, ps, pn, pl⟩⟩ := p
 obtain ⟨da, cl, ins⟩ := v
 simp only [En.cells, Pf.cells, Pr.cells, Ty.cells] at *
 refine Zv Tryz.func15 J (by kernel_rfl) J (Uk J) ?_
 refine Ye (Zg (Zc (Za 4 J J J (Yj (cs' := [_, _, _]) J J J J (Za 6 J J J (Yj (cs' := [_, _, _, _]) J J J J (Za 7 J J J (Yj (cs' := [_, _, _, _, _]) J J J J (Za 8 J J J (Zf J J ?_))))))))))
 refine Vx (Zb (Zg (Zg (Zc (Za 12 J J J (Zj J Wp J J (Za 13 J J J (Zn J Yz J J (Za 14 J J J (Yk J J J ?_)))))))))); intro c14 h14
 refine Vx (Zb ?_)
 rcases Zi h14 with ⟨rfl, g14⟩ | ⟨rfl, g14⟩
 ·exact absurd J g14
 ·refine Zu J (Zg (Wk 8 (c = kE ∧ ks.length = 0 ∧ q) Wi J ?_ _ _ J ?_))
  ·skip
   refine Zk 15 J J (Zj J tf_30_2 J J ⟨J, J⟩) ?_
   refine Zk 16 J J (Zn J Xb J J ⟨J, J⟩) ?_
   refine Xn 17 J J (fun _ q => Xv J J J q) ?_; intro c17 h17
   refine Zk 18 J J (Zd J J ⟨J, J⟩) ?_
   rcases Zi h17 with ⟨rfl, g17⟩ | ⟨rfl, g17⟩
   ·skip
    refine Ze 19 J J J J (Ze 20 J J J J (Ze 21 J J J J (Ze 22 J J J J (Zk 23 J J (Zm J J J ⟨J, J⟩) ?_))))
    refine Zk 24 J J (Zd J J ⟨J, J⟩) ?_
    refine Ze 25 J J J J (Ze 26 J J J J (Ze 27 J J J J (Zk 28 J J (Zm J J J ⟨J, J⟩) ?_)))
    refine Zk 29 J J (Zd J J ⟨J, J⟩) ?_
    refine Ze 30 J J J J (Ze 31 J J J J (Ze 32 J J J J (Ze 33 J J J J (Ze 34 J J J J (Zk 35 J J (Zm J J J ⟨J, J⟩) ?_)))))
    refine Zk 36 J J (Zd J J ⟨J, J⟩) ?_
    refine Ze 37 J J J J (Ze 38 J J J J (Ze 39 J J J J (Ze 40 J J J J (Ze 41 J J J J (Ze 42 J J J J ?_)))))
    refine Ze 43 J J J J (Zk 44 J J (Zm J J J ⟨J, J⟩) ?_)
    refine Zk 8 J J (Zf J J ⟨J, J⟩) ?_
    show BoolQ _ _ _ _ _ _
    refine Ui J ?_ by5 by3
    clear H; first | (simp_all; done) | (simp_all; omega) | grind
   ·skip
    refine Zs 19 J J J J (Zj J Vj J J ⟨J, J⟩) ?_
    refine Zs 20 J J J J (Zn J ta_28 J J ⟨J, J⟩) ?_
    refine Zs 21 J J J J (Yv J tu_28 J (.seq _ _) (fun _ => ⟨J, J⟩)) ?_
    refine Yy 22 J J J J (fun _ q => Yk J J J q) ?_; intro c22 h22
    refine Zk 23 J J (Zm J J J ⟨J, J⟩) ?_
    refine Zk 24 J J (Zd J J ⟨J, J⟩) ?_
    rcases Zi h22 with ⟨rfl, g22⟩ | ⟨rfl, g22⟩
    ·skip
     refine Ze 25 J J J J (Ze 26 J J J J (Ze 27 J J J J (Zk 28 J J (Zm J J J ⟨J, J⟩) ?_)))
     refine Zk 29 J J (Zd J J ⟨J, J⟩) ?_
     refine Ze 30 J J J J (Ze 31 J J J J (Ze 32 J J J J (Ze 33 J J J J (Ze 34 J J J J (Zk 35 J J (Zm J J J ⟨J, J⟩) ?_)))))
     refine Zk 36 J J (Zd J J ⟨J, J⟩) ?_
     refine Ze 37 J J J J (Ze 38 J J J J (Ze 39 J J J J (Ze 40 J J J J (Ze 41 J J J J (Ze 42 J J J J ?_)))))
     refine Ze 43 J J J J (Zk 44 J J (Zm J J J ⟨J, J⟩) ?_)
     refine Zk 8 J J (Zf J J ⟨J, J⟩) ?_
     show BoolQ _ _ _ _ _ _
     refine Ui J ?_ by5 by3
     clear H; first | (simp_all; done) | (simp_all; omega) | grind
    ·skip
     refine Zs 25 J J J J (Zj J Xu J J ⟨J, J⟩) ?_
     refine Zs 26 J J J J (Zn J Yz J J ⟨J, J⟩) ?_
     refine Yy 27 J J J J (fun _ q => Xx J J J q) ?_; intro c27 h27
     refine Zk 28 J J (Zm J J J ⟨J, J⟩) ?_
     refine Zk 29 J J (Zd J J ⟨J, J⟩) ?_
     rcases Zi h27 with ⟨rfl, g27⟩ | ⟨rfl, g27⟩
     ·skip
      refine Ze 30 J J J J (Ze 31 J J J J (Ze 32 J J J J (Ze 33 J J J J (Ze 34 J J J J (Zk 35 J J (Zm J J J ⟨J, J⟩) ?_)))))
      refine Zk 36 J J (Zd J J ⟨J, J⟩) ?_
      refine Ze 37 J J J J (Ze 38 J J J J (Ze 39 J J J J (Ze 40 J J J J (Ze 41 J J J J (Ze 42 J J J J ?_)))))
      refine Ze 43 J J J J (Zk 44 J J (Zm J J J ⟨J, J⟩) ?_)
      refine Zk 8 J J (Zf J J ⟨J, J⟩) ?_
      show BoolQ _ _ _ _ _ _
      refine Ui J ?_ by5 by3
      clear H; first | (simp_all; done) | (simp_all; omega) | grind
     ·skip
      refine Zs 30 J J J J (Zj J Xu J J ⟨J, J⟩) ?_
      refine Zs 31 J J J J (Zn J Yz J J ⟨J, J⟩) ?_
      refine Zs 32 J J J J (Zd J J ⟨J, J⟩) ?_
      refine Zs 33 J J J J (Yv J tu_22 J (.seq _ _) (fun _ => ⟨J, J⟩)) ?_
      refine Yy 34 J J J J (fun _ q => Ys J J J q) ?_; intro c34 h34
      refine Zk 35 J J (Zm J J J ⟨J, J⟩) ?_
      refine Zk 36 J J (Zd J J ⟨J, J⟩) ?_
      rcases Zi h34 with ⟨rfl, g34⟩ | ⟨rfl, g34⟩
      ·skip
       refine Ze 37 J J J J (Ze 38 J J J J (Ze 39 J J J J (Ze 40 J J J J (Ze 41 J J J J (Ze 42 J J J J ?_)))))
       refine Ze 43 J J J J (Zk 44 J J (Zm J J J ⟨J, J⟩) ?_)
       refine Zk 8 J J (Zf J J ⟨J, J⟩) ?_
       show BoolQ _ _ _ _ _ _
       refine Ui J ?_ by5 by3
       clear H; first | (simp_all; done) | (simp_all; omega) | grind
      ·skip
       refine Zs 37 J J J J (Zd J J ⟨J, J⟩) ?_
       refine Zs 38 J J J J (Zj J Xu J J ⟨J, J⟩) ?_
       refine Zs 39 J J J J (Zn J Yz J J ⟨J, J⟩) ?_
       refine Zs 40 J J J J (Yd J te_22 J (.seq _ _) J J (hcg) ⟨J, J⟩) ?_
       refine Zs 41 J J J J (Yb (cs' := [_, _, _, _, _]) J ta_27 J J J ⟨J, J⟩) ?_
       refine Zs 42 J J J J (Yb (cs' := [_, _, _, _, _]) J ta_27 J J J ⟨J, J⟩) ?_
       refine Yy 43 J J J J (fun _ q => Yg (xs := [.tmp 41, .tmp 42]) J J (H) by1 q) ?_; intro c43 h43
       refine Zk 44 J J (Zm J J J ⟨J, J⟩) ?_
       refine Zk 8 J J (Zf J J ⟨J, J⟩) ?_
       show BoolQ _ _ _ _ _ _
       refine Ui J ?_ by5 by3
       clear H; first | (simp_all; done) | (simp_all; omega) | grind
  intro c8 h8
  exact Zb (Ya (Yf J J (Ue _) (Vz _) ⟨⟨_, h8, J⟩, J⟩))
set_option maxHeartbeats 4000000 in
set_option maxRecDepth 100000 in
theorem rHolds1_out (v : En) (gs : List Pr) (n : Int) (hn : n < 0 ∨ gs.length ≤ n) (c : ByteArray) (ks : List Pf) (p : Pr) : BCall Tryz.prog 15 [.agg v.cells, .seq 5 (Pr.cellss gs), .agg (Pf.mk 1 n c ks).cells, .agg p.cells] False := by
 have hgl := Pr.cellss_len gs
 have hkl := Pf.cellss_len ks
 obtain ⟨pc, ⟨pk, ps, pn, pl⟩⟩ := p
 obtain ⟨da, cl, ins⟩ := v
 simp only [En.cells, Pf.cells, Pr.cells, Ty.cells] at *
 refine Zv Tryz.func15 J (by kernel_rfl) J (Uk J) ?_
 refine Ye (Zg (Zc (Za 4 J J J (Yj (cs' := [_, _, _]) J J J J (Za 6 J J J (Yj (cs' := [_, _, _, _]) J J J J (Za 7 J J J (Yj (cs' := [_, _, _, _, _]) J J J J (Za 8 J J J (Zf J J ?_))))))))))
 refine Vx (Zb (Zg (Zg (Zc (Za 12 J J J (Zj J Wp J J (Za 13 J J J (Zn J Yz J J (Za 14 J J J (Yk J J J ?_)))))))))); intro c14 h14
 refine Vx (Zb ?_)
 rcases Zi h14 with ⟨rfl, g14⟩ | ⟨rfl, g14⟩
 ·exact absurd J g14
 ·refine Zu J (Zg (Wk 8 (False) Wi J ?_ _ _ J ?_))
  ·skip
   refine Zk 15 J J (Zj J tf_30_2 J J ⟨J, J⟩) ?_
   refine Zk 16 J J (Zn J Xb J J ⟨J, J⟩) ?_
   refine Xn 17 J J (fun _ q => Xv J J J q) ?_; intro c17 h17
   refine Zk 18 J J (Zd J J ⟨J, J⟩) ?_
   rcases Zi h17 with ⟨rfl, g17⟩ | ⟨rfl, g17⟩
   ·skip
    refine Ze 19 J J J J (Ze 20 J J J J (Ze 21 J J J J (Ze 22 J J J J (Zk 23 J J (Zm J J J ⟨J, J⟩) ?_))))
    refine Zk 24 J J (Zd J J ⟨J, J⟩) ?_
    refine Ze 25 J J J J (Ze 26 J J J J (Ze 27 J J J J (Zk 28 J J (Zm J J J ⟨J, J⟩) ?_)))
    refine Zk 29 J J (Zd J J ⟨J, J⟩) ?_
    refine Ze 30 J J J J (Ze 31 J J J J (Ze 32 J J J J (Ze 33 J J J J (Ze 34 J J J J (Zk 35 J J (Zm J J J ⟨J, J⟩) ?_)))))
    refine Zk 36 J J (Zd J J ⟨J, J⟩) ?_
    refine Ze 37 J J J J (Ze 38 J J J J (Ze 39 J J J J (Ze 40 J J J J (Ze 41 J J J J (Ze 42 J J J J ?_)))))
    refine Ze 43 J J J J (Zk 44 J J (Zm J J J ⟨J, J⟩) ?_)
    refine Zk 8 J J (Zf J J ⟨J, J⟩) ?_
    show BoolQ _ _ _ _ _ _
    refine Ui J ?_ by5 by3
    first | (simp_all; done) | (simp_all; omega) | grind
   ·skip
    refine Zs 19 J J J J (Zj J Vj J J ⟨J, J⟩) ?_
    refine Zs 20 J J J J (Zn J ta_28 J J ⟨J, J⟩) ?_
    refine Zs 21 J J J J (Yv J tu_28 J (.seq _ _) (fun _ => ⟨J, J⟩)) ?_
    refine Yy 22 J J J J (fun _ q => Yk J J J q) ?_; intro c22 h22
    refine Zk 23 J J (Zm J J J ⟨J, J⟩) ?_
    refine Zk 24 J J (Zd J J ⟨J, J⟩) ?_
    rcases Zi h22 with ⟨rfl, g22⟩ | ⟨rfl, g22⟩
    ·skip
     refine Ze 25 J J J J (Ze 26 J J J J (Ze 27 J J J J (Zk 28 J J (Zm J J J ⟨J, J⟩) ?_)))
     refine Zk 29 J J (Zd J J ⟨J, J⟩) ?_
     refine Ze 30 J J J J (Ze 31 J J J J (Ze 32 J J J J (Ze 33 J J J J (Ze 34 J J J J (Zk 35 J J (Zm J J J ⟨J, J⟩) ?_)))))
     refine Zk 36 J J (Zd J J ⟨J, J⟩) ?_
     refine Ze 37 J J J J (Ze 38 J J J J (Ze 39 J J J J (Ze 40 J J J J (Ze 41 J J J J (Ze 42 J J J J ?_)))))
     refine Ze 43 J J J J (Zk 44 J J (Zm J J J ⟨J, J⟩) ?_)
     refine Zk 8 J J (Zf J J ⟨J, J⟩) ?_
     show BoolQ _ _ _ _ _ _
     refine Ui J ?_ by5 by3
     first | (simp_all; done) | (simp_all; omega) | grind
    ·skip
     refine Zs 25 J J J J (Zj J Xu J J ⟨J, J⟩) ?_
     refine Zs 26 J J J J (Zn J Yz J J ⟨J, J⟩) ?_
     refine Yy 27 J J J J (fun _ q => Xx J J J q) ?_; intro c27 h27
     refine Zk 28 J J (Zm J J J ⟨J, J⟩) ?_
     refine Zk 29 J J (Zd J J ⟨J, J⟩) ?_
     rcases Zi h27 with ⟨rfl, g27⟩ | ⟨rfl, g27⟩
     ·skip
      refine Ze 30 J J J J (Ze 31 J J J J (Ze 32 J J J J (Ze 33 J J J J (Ze 34 J J J J (Zk 35 J J (Zm J J J ⟨J, J⟩) ?_)))))
      refine Zk 36 J J (Zd J J ⟨J, J⟩) ?_
      refine Ze 37 J J J J (Ze 38 J J J J (Ze 39 J J J J (Ze 40 J J J J (Ze 41 J J J J (Ze 42 J J J J ?_)))))
      refine Ze 43 J J J J (Zk 44 J J (Zm J J J ⟨J, J⟩) ?_)
      refine Zk 8 J J (Zf J J ⟨J, J⟩) ?_
      show BoolQ _ _ _ _ _ _
      refine Ui J ?_ by5 by3
      first | (simp_all; done) | (simp_all; omega) | grind
     ·skip
      refine Zs 30 J J J J (Zj J Xu J J ⟨J, J⟩) ?_
      refine Zs 31 J J J J (Zn J Yz J J ⟨J, J⟩) ?_
      refine Zs 32 J J J J (Zd J J ⟨J, J⟩) ?_
      refine Zs 33 J J J J (Yv J tu_22 J (.seq _ _) (fun _ => ⟨J, J⟩)) ?_
      refine Yy 34 J J J J (fun _ q => Ys J J J q) ?_; intro c34 h34
      refine Zk 35 J J (Zm J J J ⟨J, J⟩) ?_
      refine Zk 36 J J (Zd J J ⟨J, J⟩) ?_
      rcases Zi h34 with ⟨rfl, g34⟩ | ⟨rfl, g34⟩
      ·skip
       refine Ze 37 J J J J (Ze 38 J J J J (Ze 39 J J J J (Ze 40 J J J J (Ze 41 J J J J (Ze 42 J J J J ?_)))))
       refine Ze 43 J J J J (Zk 44 J J (Zm J J J ⟨J, J⟩) ?_)
       refine Zk 8 J J (Zf J J ⟨J, J⟩) ?_
       show BoolQ _ _ _ _ _ _
       refine Ui J ?_ by5 by3
       first | (simp_all; done) | (simp_all; omega) | grind
      ·omega
  intro c8 h8
  exact Zb (Ya (Yf J J (Ue _) (Vz _) ⟨⟨_, h8, J⟩, J⟩))
set_option maxHeartbeats 4000000 in
set_option maxRecDepth 100000 in
theorem rHolds2_no (v : En) (gs : List Pr) (n : Int) (c : ByteArray) (hc : ¬ 0 ≤ classI v c) (ks : List Pf) (p : Pr) : BCall Tryz.prog 15 [.agg v.cells, .seq 5 (Pr.cellss gs), .agg (Pf.mk 2 n c ks).cells, .agg p.cells] False := by
 have H := Class_c v c
 generalize classI v c = m at *
 obtain ⟨pc, ⟨pk, ps, pn, pl⟩⟩ := p
 obtain ⟨da, cl, ins⟩ := v
 simp only [En.cells, Pf.cells, Pr.cells, Ty.cells] at *
 refine Zv Tryz.func15 J (by kernel_rfl) J (Uk J) ?_
 refine Ye (Zg (Zc (Za 4 J J J (Yj (cs' := [_, _, _]) J J J J (Za 6 J J J (Yj (cs' := [_, _, _, _]) J J J J (Za 7 J J J (Yj (cs' := [_, _, _, _, _]) J J J J (Za 8 J J J (Zf J J ?_))))))))))
 refine Vx (Zb (Zg (Zg (Zc (Za 12 J J J (Zj J Wp J J (Za 13 J J J (Zn J Yz J J (Za 14 J J J (Yk J J J ?_)))))))))); intro c14 h14
 refine Vx (Zb ?_)
 rcases Zi h14 with ⟨rfl, g14⟩ | ⟨rfl, g14⟩
 ·refine Zq J (Zw (Zb (Zg (Zg (Zc (Za 45 J J J (Zj J Wp J J (Za 46 J J J (Zn J Yz J J (Za 47 J J J (Yk J J J ?_))))))))))); intro c47 h47
  refine Vx (Zb ?_)
  rcases Zi h47 with ⟨rfl, g47⟩ | ⟨rfl, g47⟩
  ·exact absurd J g47
  ·refine Zu J (Zg (Zc (Za 48 J J J (Yb (cs' := [_, _, _]) J Wb J J J (Za 49 J J J (Zj J tf_30_2 J J (Za 50 J J J (Zn J Xb J J (Za 51 J J J (Yn (xs := [.tmp 48, .tmp 50]) J J (H) by1 ?_))))))))))
   refine Za 9 J J J (Zf J J (Vx (Zb (Zg (Zg (Wk 76 (True) Wi J ?_ _ _ J ?_))))))
   ·skip
    refine Zk 52 J J (Zd J J ⟨J, J⟩) ?_
    refine Xn 53 J J (fun _ q => Ys J J J q) ?_; intro c53 h53
    refine Zk 54 J J (Zd J J ⟨J, J⟩) ?_
    rcases Zi h53 with ⟨rfl, g53⟩ | ⟨rfl, g53⟩
    ·omega
    ·skip
     refine Ze 55 J J J J (Ze 56 J J J J (Ze 57 J J J J (Zk 58 J J (Zm J J J ⟨J, J⟩) ?_)))
     refine Zk 59 J J (Zd J J ⟨J, J⟩) ?_
     refine Ze 60 J J J J (Ze 61 J J J J (Ze 62 J J J J (Ze 63 J J J J (Ze 64 J J J J (Ze 65 J J J J ?_)))))
     refine Ze 66 J J J J (Ze 67 J J J J (Ze 68 J J J J (Ze 69 J J J J (Zk 70 J J (Zm J J J ⟨J, J⟩) ?_))))
     refine Zk 71 J J (Zd J J ⟨J, J⟩) ?_
     refine Ze 72 J J J J (Ze 73 J J J J (Ze 74 J J J J (Ze 75 J J J J (Zk 76 J J (Zm J J J ⟨J, J⟩) ?_))))
     show BoolQ _ _ _ _ _ _
     refine Ui J ?_ by5 by3
     first | (simp_all; done) | grind
   intro c76 h76
   refine Zb ?_
   rcases Zi h76 with ⟨rfl, g76⟩ | ⟨rfl, g76⟩
   ·exact absurd trivial g76
   ·exact Zu J (Zg (Zc (Za 8 J J J (Zf J J (Vx (Zb (Ya (Yf J J (Ue _) (Vz _) ⟨⟨false, by simp, J⟩, J⟩))))))))
 ·exact absurd g14 (by decide)
set_option maxHeartbeats 4000000 in
set_option maxRecDepth 100000 in
theorem rHolds2_out (v : En) (gs : List Pr) (n : Int) (c : ByteArray) (j : Nat) (z : Cl) (hj : classI v c = j) (hz : v.cl[j]? = some z) (ks : List Pf) (hn : n < 0 ∨ z.su.length ≤ n ∨ ks.length ≠ 1) (p : Pr) : BCall Tryz.prog 15 [.agg v.cells, .seq 5 (Pr.cellss gs), .agg (Pf.mk 2 n c ks).cells, .agg p.cells] False := by
 have H := Class_c v c
 rw [hj] at H
 clear hj
 have hcz := Cl.cellss_get hz
 have hjl := Vf hz
 have hkl := Pf.cellss_len ks
 obtain ⟨pc, ⟨pk, ps, pn, pl⟩⟩ := p
 obtain ⟨da, cl, ins⟩ := v
 have hcl := Cl.cellss_len cl
 obtain ⟨ys, yv, ysu, yms, yds, yp⟩ := z
 have hls := Xw ysu
 simp only [En.cells, Pf.cells, Pr.cells, Ty.cells, Cl.cells, Cl.su, En.cl] at *
 refine Zv Tryz.func15 J (by kernel_rfl) J (Uk J) ?_
 refine Ye (Zg (Zc (Za 4 J J J (Yj (cs' := [_, _, _]) J J J J (Za 6 J J J (Yj (cs' := [_, _, _, _]) J J J J (Za 7 J J J (Yj (cs' := [_, _, _, _, _]) J J J J (Za 8 J J J (Zf J J ?_))))))))))
 refine Vx (Zb (Zg (Zg (Zc (Za 12 J J J (Zj J Wp J J (Za 13 J J J (Zn J Yz J J (Za 14 J J J (Yk J J J ?_)))))))))); intro c14 h14
 refine Vx (Zb ?_)
 rcases Zi h14 with ⟨rfl, g14⟩ | ⟨rfl, g14⟩
 ·refine Zq J (Zw (Zb (Zg (Zg (Zc (Za 45 J J J (Zj J Wp J J (Za 46 J J J (Zn J Yz J J (Za 47 J J J (Yk J J J ?_))))))))))); intro c47 h47
  refine Vx (Zb ?_)
  rcases Zi h47 with ⟨rfl, g47⟩ | ⟨rfl, g47⟩
  ·exact absurd J g47
  ·refine Zu J (Zg (Zc (Za 48 J J J (Yb (cs' := [_, _, _]) J Wb J J J (Za 49 J J J (Zj J tf_30_2 J J (Za 50 J J J (Zn J Xb J J (Za 51 J J J (Yn (xs := [.tmp 48, .tmp 50]) J J (H) by1 ?_))))))))))
   refine Za 9 J J J (Zf J J (Vx (Zb (Zg (Zg (Wk 76 (n < 0 ∨ ysu.length ≤ n ∨ ks.length ≠ 1) Wi J ?_ _ _ J ?_))))))
   ·skip
    refine Zk 52 J J (Zd J J ⟨J, J⟩) ?_
    refine Xn 53 J J (fun _ q => Ys J J J q) ?_; intro c53 h53
    refine Zk 54 J J (Zd J J ⟨J, J⟩) ?_
    rcases Zi h53 with ⟨rfl, g53⟩ | ⟨rfl, g53⟩
    ·skip
     refine Zs 55 J J J J (Zj J Xu J J ⟨J, J⟩) ?_
     refine Zs 56 J J J J (Zn J Yz J J ⟨J, J⟩) ?_
     refine Yy 57 J J J J (fun _ q => Ys J J J q) ?_; intro c57 h57
     refine Zk 58 J J (Zm J J J ⟨J, J⟩) ?_
     refine Zk 59 J J (Zd J J ⟨J, J⟩) ?_
     rcases Zi h57 with ⟨rfl, g57⟩ | ⟨rfl, g57⟩
     ·skip
      refine Zs 60 J J J J (Zj J Xu J J ⟨J, J⟩) ?_
      refine Zs 61 J J J J (Zn J Yz J J ⟨J, J⟩) ?_
      refine Zs 62 J J J J (Zj J Wl J J ⟨J, J⟩) ?_
      refine Zs 63 J J J J (Zn J Vo J J ⟨J, J⟩) ?_
      refine Zs 64 J J J J (Zd J J ⟨J, J⟩) ?_
      refine Zs 65 J J J J (Yd J te_35 J (.seq _ _) J J (hcz) ⟨J, J⟩) ?_
      refine Zs 66 J J J J (Zj J tf_77_2 J J ⟨J, J⟩) ?_
      refine Zs 67 J J J J (Zn J ta_68 J J ⟨J, J⟩) ?_
      refine Zs 68 J J J J (Yv J tu_68 J (.seq _ _) (fun _ => ⟨J, J⟩)) ?_
      refine Yy 69 J J J J (fun _ q => Xx J J J q) ?_; intro c69 h69
      refine Zk 70 J J (Zm J J J ⟨J, J⟩) ?_
      refine Zk 71 J J (Zd J J ⟨J, J⟩) ?_
      rcases Zi h69 with ⟨rfl, g69⟩ | ⟨rfl, g69⟩
      ·skip
       refine Zs 72 J J J J (Zj J Vj J J ⟨J, J⟩) ?_
       refine Zs 73 J J J J (Zn J ta_28 J J ⟨J, J⟩) ?_
       refine Zs 74 J J J J (Yv J tu_28 J (.seq _ _) (fun _ => ⟨J, J⟩)) ?_
       refine Yy 75 J J J J (fun _ q => Xp J J J q) ?_; intro c75 h75
       refine Zk 76 J J (Zm J J J ⟨J, J⟩) ?_
       show BoolQ _ _ _ _ _ _
       refine Ui J ?_ by5 by3
       first | (simp_all; done) | (simp_all; omega) | grind
      ·skip
       refine Ze 72 J J J J (Ze 73 J J J J (Ze 74 J J J J (Ze 75 J J J J (Zk 76 J J (Zm J J J ⟨J, J⟩) ?_))))
       show BoolQ _ _ _ _ _ _
       refine Ui J ?_ by5 by3
       first | (simp_all; done) | (simp_all; omega) | grind
     ·skip
      refine Ze 60 J J J J (Ze 61 J J J J (Ze 62 J J J J (Ze 63 J J J J (Ze 64 J J J J (Ze 65 J J J J ?_)))))
      refine Ze 66 J J J J (Ze 67 J J J J (Ze 68 J J J J (Ze 69 J J J J (Zk 70 J J (Zm J J J ⟨J, J⟩) ?_))))
      refine Zk 71 J J (Zd J J ⟨J, J⟩) ?_
      refine Ze 72 J J J J (Ze 73 J J J J (Ze 74 J J J J (Ze 75 J J J J (Zk 76 J J (Zm J J J ⟨J, J⟩) ?_))))
      show BoolQ _ _ _ _ _ _
      refine Ui J ?_ by5 by3
      first | (simp_all; done) | (simp_all; omega) | grind
    ·skip
     refine Ze 55 J J J J (Ze 56 J J J J (Ze 57 J J J J (Zk 58 J J (Zm J J J ⟨J, J⟩) ?_)))
     refine Zk 59 J J (Zd J J ⟨J, J⟩) ?_
     refine Ze 60 J J J J (Ze 61 J J J J (Ze 62 J J J J (Ze 63 J J J J (Ze 64 J J J J (Ze 65 J J J J ?_)))))
     refine Ze 66 J J J J (Ze 67 J J J J (Ze 68 J J J J (Ze 69 J J J J (Zk 70 J J (Zm J J J ⟨J, J⟩) ?_))))
     refine Zk 71 J J (Zd J J ⟨J, J⟩) ?_
     refine Ze 72 J J J J (Ze 73 J J J J (Ze 74 J J J J (Ze 75 J J J J (Zk 76 J J (Zm J J J ⟨J, J⟩) ?_))))
     show BoolQ _ _ _ _ _ _
     refine Ui J ?_ by5 by3
     first | (simp_all; done) | (simp_all; omega) | grind
   intro c76 h76
   refine Zb ?_
   rcases Zi h76 with ⟨rfl, g76⟩ | ⟨rfl, g76⟩
   ·exact absurd hn g76
   ·exact Zu J (Zg (Zc (Za 8 J J J (Zf J J (Vx (Zb (Ya (Yf J J (Ue _) (Vz _) ⟨⟨false, by simp, J⟩, J⟩))))))))
 ·exact absurd g14 (by decide)
set_option maxHeartbeats 4000000 in
set_option maxRecDepth 100000 in
theorem rHolds2_go (v : En) (gs : List Pr) (i : Nat) (c : ByteArray) (j : Nat) (z : Cl) (hj : classI v c = j) (hz : v.cl[j]? = some z) (x : Pf) (p : Pr) (s : ByteArray) (hs : z.su[i]? = some s) (q : Prop) (HX : BCall Tryz.prog 15 [.agg v.cells, .seq 5 (Pr.cellss gs), .agg x.cells, .agg (Pr.mk c p.t).cells] q) : BCall Tryz.prog 15 [.agg v.cells, .seq 5 (Pr.cellss gs), .agg (Pf.mk 2 i c [x]).cells, .agg p.cells] (s = p.c ∧ q) := by
 have H := Class_c v c
 rw [hj] at H
 clear hj
 have hcz := Cl.cellss_get hz
 have hcs := strs_get hs
 have hjl := Vf hz
 have hsl := Vf hs
 obtain ⟨pc, ⟨pk, ps, pn, pl⟩⟩ := p
 obtain ⟨da, cl, ins⟩ := v
 have hcl := Cl.cellss_len cl
 obtain ⟨ys, yv, ysu, yms, yds, yp⟩ := z
 have hls := Xw ysu
 obtain ⟨xk, xn, xc, xl⟩ := x
 simp only [En.cells, Pf.cells, Pf.cellss, Pr.cells, Ty.cells, Cl.cells, Cl.su, En.cl, Pr.c, Pr.t] at *
 refine Zv Tryz.func15 J (by kernel_rfl) J (Uk J) ?_
 refine Ye (Zg (Zc (Za 4 J J J (Yj (cs' := [_, _, _]) J J J J (Za 6 J J J (Yj (cs' := [_, _, _, _]) J J J J (Za 7 J J J (Yj (cs' := [_, _, _, _, _]) J J J J (Za 8 J J J (Zf J J ?_))))))))))
 refine Vx (Zb (Zg (Zg (Zc (Za 12 J J J (Zj J Wp J J (Za 13 J J J (Zn J Yz J J (Za 14 J J J (Yk J J J ?_)))))))))); intro c14 h14
 refine Vx (Zb ?_)
 rcases Zi h14 with ⟨rfl, g14⟩ | ⟨rfl, g14⟩
 ·refine Zq J (Zw (Zb (Zg (Zg (Zc (Za 45 J J J (Zj J Wp J J (Za 46 J J J (Zn J Yz J J (Za 47 J J J (Yk J J J ?_))))))))))); intro c47 h47
  refine Vx (Zb ?_)
  rcases Zi h47 with ⟨rfl, g47⟩ | ⟨rfl, g47⟩
  ·exact absurd J g47
  ·refine Zu J (Zg (Zc (Za 48 J J J (Yb (cs' := [_, _, _]) J Wb J J J (Za 49 J J J (Zj J tf_30_2 J J (Za 50 J J J (Zn J Xb J J (Za 51 J J J (Yn (xs := [.tmp 48, .tmp 50]) J J (H) by1 ?_))))))))))
   refine Za 9 J J J (Zf J J (Vx (Zb (Zg (Zg (Wk 76 (False) Wi J ?_ _ _ J ?_))))))
   ·skip
    refine Zk 52 J J (Zd J J ⟨J, J⟩) ?_
    refine Xn 53 J J (fun _ q => Ys J J J q) ?_; intro c53 h53
    refine Zk 54 J J (Zd J J ⟨J, J⟩) ?_
    rcases Zi h53 with ⟨rfl, g53⟩ | ⟨rfl, g53⟩
    ·skip
     refine Zs 55 J J J J (Zj J Xu J J ⟨J, J⟩) ?_
     refine Zs 56 J J J J (Zn J Yz J J ⟨J, J⟩) ?_
     refine Yy 57 J J J J (fun _ q => Ys J J J q) ?_; intro c57 h57
     refine Zk 58 J J (Zm J J J ⟨J, J⟩) ?_
     refine Zk 59 J J (Zd J J ⟨J, J⟩) ?_
     rcases Zi h57 with ⟨rfl, g57⟩ | ⟨rfl, g57⟩
     ·skip
      refine Zs 60 J J J J (Zj J Xu J J ⟨J, J⟩) ?_
      refine Zs 61 J J J J (Zn J Yz J J ⟨J, J⟩) ?_
      refine Zs 62 J J J J (Zj J Wl J J ⟨J, J⟩) ?_
      refine Zs 63 J J J J (Zn J Vo J J ⟨J, J⟩) ?_
      refine Zs 64 J J J J (Zd J J ⟨J, J⟩) ?_
      refine Zs 65 J J J J (Yd J te_35 J (.seq _ _) J J (hcz) ⟨J, J⟩) ?_
      refine Zs 66 J J J J (Zj J tf_77_2 J J ⟨J, J⟩) ?_
      refine Zs 67 J J J J (Zn J ta_68 J J ⟨J, J⟩) ?_
      refine Zs 68 J J J J (Yv J tu_68 J (.seq _ _) (fun _ => ⟨J, J⟩)) ?_
      refine Yy 69 J J J J (fun _ q => Xx J J J q) ?_; intro c69 h69
      refine Zk 70 J J (Zm J J J ⟨J, J⟩) ?_
      refine Zk 71 J J (Zd J J ⟨J, J⟩) ?_
      rcases Zi h69 with ⟨rfl, g69⟩ | ⟨rfl, g69⟩
      ·skip
       refine Zs 72 J J J J (Zj J Vj J J ⟨J, J⟩) ?_
       refine Zs 73 J J J J (Zn J ta_28 J J ⟨J, J⟩) ?_
       refine Zs 74 J J J J (Yv J tu_28 J (.seq _ _) (fun _ => ⟨J, J⟩)) ?_
       refine Yy 75 J J J J (fun _ q => Xp J J J q) ?_; intro c75 h75
       refine Zk 76 J J (Zm J J J ⟨J, J⟩) ?_
       show BoolQ _ _ _ _ _ _
       refine Ui J ?_ by5 by3
       clear HX; first | (simp_all; done) | (simp_all; omega) | grind
      ·skip
       refine Ze 72 J J J J (Ze 73 J J J J (Ze 74 J J J J (Ze 75 J J J J (Zk 76 J J (Zm J J J ⟨J, J⟩) ?_))))
       show BoolQ _ _ _ _ _ _
       refine Ui J ?_ by5 by3
       clear HX; first | (simp_all; done) | (simp_all; omega) | grind
     ·skip
      refine Ze 60 J J J J (Ze 61 J J J J (Ze 62 J J J J (Ze 63 J J J J (Ze 64 J J J J (Ze 65 J J J J ?_)))))
      refine Ze 66 J J J J (Ze 67 J J J J (Ze 68 J J J J (Ze 69 J J J J (Zk 70 J J (Zm J J J ⟨J, J⟩) ?_))))
      refine Zk 71 J J (Zd J J ⟨J, J⟩) ?_
      refine Ze 72 J J J J (Ze 73 J J J J (Ze 74 J J J J (Ze 75 J J J J (Zk 76 J J (Zm J J J ⟨J, J⟩) ?_))))
      show BoolQ _ _ _ _ _ _
      refine Ui J ?_ by5 by3
      clear HX; first | (simp_all; done) | (simp_all; omega) | grind
    ·skip
     refine Ze 55 J J J J (Ze 56 J J J J (Ze 57 J J J J (Zk 58 J J (Zm J J J ⟨J, J⟩) ?_)))
     refine Zk 59 J J (Zd J J ⟨J, J⟩) ?_
     refine Ze 60 J J J J (Ze 61 J J J J (Ze 62 J J J J (Ze 63 J J J J (Ze 64 J J J J (Ze 65 J J J J ?_)))))
     refine Ze 66 J J J J (Ze 67 J J J J (Ze 68 J J J J (Ze 69 J J J J (Zk 70 J J (Zm J J J ⟨J, J⟩) ?_))))
     refine Zk 71 J J (Zd J J ⟨J, J⟩) ?_
     refine Ze 72 J J J J (Ze 73 J J J J (Ze 74 J J J J (Ze 75 J J J J (Zk 76 J J (Zm J J J ⟨J, J⟩) ?_))))
     show BoolQ _ _ _ _ _ _
     refine Ui J ?_ by5 by3
     clear HX; first | (simp_all; done) | (simp_all; omega) | grind
   intro c76 h76
   refine Zb ?_
   rcases Zi h76 with ⟨rfl, g76⟩ | ⟨rfl, g76⟩
   ·refine Zq J (Zw (Zb (Zg (Wk 8 (s = pc ∧ q) Wi J ?_ _ _ J ?_))))
    ·skip
     refine Zk 77 J J (Zj J Wl J J ⟨J, J⟩) ?_
     refine Zk 78 J J (Zn J Vo J J ⟨J, J⟩) ?_
     refine Zk 79 J J (Zd J J ⟨J, J⟩) ?_
     refine Zk 80 J J (Yd J te_35 J (.seq _ _) J J (by first | exact hcz | exact hcs | rfl) ⟨J, J⟩) ?_
     refine Zk 81 J J (Zj J tf_77_2 J J ⟨J, J⟩) ?_
     refine Zk 82 J J (Zn J ta_68 J J ⟨J, J⟩) ?_
     refine Zk 83 J J (Zj J Xu J J ⟨J, J⟩) ?_
     refine Zk 84 J J (Zn J Yz J J ⟨J, J⟩) ?_
     refine Zk 85 J J (Yd J te_68 J (.seq _ _) J J (by first | exact hcz | exact hcs | rfl) ⟨J, J⟩) ?_
     refine Zk 86 J J (Zn J Xb J J ⟨J, J⟩) ?_
     refine Zk 87 J J (Zj J Wu J J ⟨J, J⟩) ?_
     refine Zk 88 J J (Zn J Xb J J ⟨J, J⟩) ?_
     refine Xn 89 J J (fun _ q => Xv J J J q) ?_; intro c89 h89
     refine Zk 90 J J (Zd J J ⟨J, J⟩) ?_
     rcases Zi h89 with ⟨rfl, g89⟩ | ⟨rfl, g89⟩
     ·skip
      refine Ze 91 J J J J (Ze 92 J J J J (Ze 93 J J J J (Ze 94 J J J J (Ze 95 J J J J (Ze 96 J J J J ?_)))))
      refine Ze 97 J J J J (Ze 98 J J J J (Ze 99 J J J J (Ze 100 J J J J (Ze 101 J J J J (Ze 102 J J J J ?_)))))
      refine Zk 103 J J (Zm J J J ⟨J, J⟩) ?_
      refine Zk 8 J J (Zf J J ⟨J, J⟩) ?_
      show BoolQ _ _ _ _ _ _
      refine Ui J ?_ by5 by3
      clear HX H; first | (simp_all; done) | (simp_all; omega) | grind
     ·skip
      refine Zs 91 J J J J (Yb (cs' := [_, _, _]) J Wb J J J ⟨J, J⟩) ?_
      refine Zs 92 J J J J (Zd J J ⟨J, J⟩) ?_
      refine Zs 93 J J J J (Zj J Vj J J ⟨J, J⟩) ?_
      refine Zs 94 J J J J (Zn J ta_28 J J ⟨J, J⟩) ?_
      refine Zs 95 J J J J (Yd J te_28 J (.seq _ _) J J (by first | exact hcz | exact hcs | rfl) ⟨J, J⟩) ?_
      refine Zs 96 J J J J (Yb (cs' := [_, _, _, _]) J Vm J J J ⟨J, J⟩) ?_
      refine Zs 97 J J J J (Zj J tf_30_2 J J ⟨J, J⟩) ?_
      refine Zs 98 J J J J (Zn J Xb J J ⟨J, J⟩) ?_
      refine Zs 99 J J J J (Zj J Wa J J ⟨J, J⟩) ?_
      refine Zs 100 J J J J (Yb (cs' := [_, _, _, _]) J Xt J J J ⟨J, J⟩) ?_
      refine Zs 101 J J J J (Yo (ns := [0, 1]) (xs := [.tmp 98, .tmp 100]) J tz_27 J tfl_27 J J J J ⟨J, J⟩) ?_
      refine Yy 102 J J J J (fun _ q => Yg (xs := [.tmp 91, .tmp 92, .tmp 96, .tmp 101]) J J (HX) by1 q) ?_; intro c102 h102
      refine Zk 103 J J (Zm J J J ⟨J, J⟩) ?_
      refine Zk 8 J J (Zf J J ⟨J, J⟩) ?_
      show BoolQ _ _ _ _ _ _
      refine Ui J ?_ by5 by3
      clear HX H; first | (simp_all; done) | (simp_all; omega) | grind
    intro c8 h8
    exact Zb (Ya (Yf J J (Ue _) (Vz _) ⟨⟨_, h8, J⟩, J⟩))
   ·exact False.elim g76
 ·exact absurd g14 (by decide)
set_option maxHeartbeats 4000000 in
set_option maxRecDepth 100000 in
theorem rHolds0_c (v : En) (gs : List Pr) (k n : Int) (c : ByteArray) (ks : List Pf) (p : Pr) (h1 : k ≠ 1) (h2 : k ≠ 2) (h3 : k ≠ 3) : BCall Tryz.prog 15 [.agg v.cells, .seq 5 (Pr.cellss gs), .agg (Pf.mk k n c ks).cells, .agg p.cells] False := by
 obtain ⟨pc, ⟨pk, ps, pn, pl⟩⟩ := p
 obtain ⟨da, cl, ins⟩ := v
 simp only [En.cells, Pf.cells, Pr.cells, Ty.cells] at *
 refine Zv Tryz.func15 J (by kernel_rfl) J (Uk J) ?_
 refine Ye (Zg (Zc (Za 4 J J J (Yj (cs' := [_, _, _]) J J J J (Za 6 J J J (Yj (cs' := [_, _, _, _]) J J J J (Za 7 J J J (Yj (cs' := [_, _, _, _, _]) J J J J (Za 8 J J J (Zf J J ?_))))))))))
 refine Vx (Zb (Zg (Zg (Zc (Za 12 J J J (Zj J Wp J J (Za 13 J J J (Zn J Yz J J (Za 14 J J J (Yk J J J ?_)))))))))); intro c14 h14
 refine Vx (Zb ?_)
 rcases Zi h14 with ⟨rfl, g14⟩ | ⟨rfl, g14⟩
 ·refine Zq J (Zw (Zb (Zg (Zg (Zc (Za 45 J J J (Zj J Wp J J (Za 46 J J J (Zn J Yz J J (Za 47 J J J (Yk J J J ?_))))))))))); intro c47 h47
  refine Vx (Zb ?_)
  rcases Zi h47 with ⟨rfl, g47⟩ | ⟨rfl, g47⟩
  ·refine Zq J (Zw (Zb (Zg (Zg (Wk 135 (True) Wi J ?_ _ _ J ?_)))))
   ·skip
    refine Zk 104 J J (Zj J Wp J J ⟨J, J⟩) ?_
    refine Zk 105 J J (Zn J Yz J J ⟨J, J⟩) ?_
    refine Xn 106 J J (fun _ q => Xp J J J q) ?_; intro c106 h106
    refine Zk 107 J J (Zd J J ⟨J, J⟩) ?_
    rcases Zi h106 with ⟨rfl, g106⟩ | ⟨rfl, g106⟩
    ·exact absurd h3 g106
    ·skip
     refine Ze 108 J J J J (Ze 109 J J J J (Ze 110 J J J J (Zk 111 J J (Zm J J J ⟨J, J⟩) ?_)))
     refine Zk 112 J J (Zd J J ⟨J, J⟩) ?_
     refine Ze 113 J J J J (Ze 114 J J J J (Ze 115 J J J J (Zk 116 J J (Zm J J J ⟨J, J⟩) ?_)))
     refine Zk 117 J J (Zd J J ⟨J, J⟩) ?_
     refine Ze 118 J J J J (Ze 119 J J J J (Ze 120 J J J J (Ze 121 J J J J (Ze 122 J J J J (Ze 123 J J J J ?_)))))
     refine Zk 124 J J (Zm J J J ⟨J, J⟩) ?_
     refine Zk 125 J J (Zd J J ⟨J, J⟩) ?_
     refine Ze 126 J J J J (Ze 127 J J J J (Ze 128 J J J J (Ze 129 J J J J (Ze 130 J J J J (Ze 131 J J J J ?_)))))
     refine Ze 132 J J J J (Ze 133 J J J J (Ze 134 J J J J (Zk 135 J J (Zm J J J ⟨J, J⟩) ?_)))
     show BoolQ _ _ _ _ _ _
     refine Ui J ?_ by5 by3
     first | (simp_all; done) | grind
   intro c135 h135
   refine Zb ?_
   rcases Zi h135 with ⟨rfl, g135⟩ | ⟨rfl, g135⟩
   ·exact absurd trivial g135
   ·exact Zu J (Zg (Zc (Za 8 J J J (Zf J J (Vx (Zb (Ya (Yf J J (Ue _) (Vz _) ⟨⟨false, by simp, J⟩, J⟩))))))))
  ·exact absurd g47 h2
 ·exact absurd g14 h1
set_option maxHeartbeats 4000000 in
set_option maxRecDepth 100000 in
theorem rHolds3_out (v : En) (gs : List Pr) (n : Int) (c : ByteArray) (hn : n < 0 ∨ v.ins.length ≤ n) (ks : List Pf) (p : Pr) : BCall Tryz.prog 15 [.agg v.cells, .seq 5 (Pr.cellss gs), .agg (Pf.mk 3 n c ks).cells, .agg p.cells] False := by
 obtain ⟨pc, ⟨pk, ps, pn, pl⟩⟩ := p
 obtain ⟨da, cl, ins⟩ := v
 have hil := In.cellss_len ins
 simp only [En.cells, Pf.cells, Pr.cells, Ty.cells, En.ins] at *
 refine Zv Tryz.func15 J (by kernel_rfl) J (Uk J) ?_
 refine Ye (Zg (Zc (Za 4 J J J (Yj (cs' := [_, _, _]) J J J J (Za 6 J J J (Yj (cs' := [_, _, _, _]) J J J J (Za 7 J J J (Yj (cs' := [_, _, _, _, _]) J J J J (Za 8 J J J (Zf J J ?_))))))))))
 refine Vx (Zb (Zg (Zg (Zc (Za 12 J J J (Zj J Wp J J (Za 13 J J J (Zn J Yz J J (Za 14 J J J (Yk J J J ?_)))))))))); intro c14 h14
 refine Vx (Zb ?_)
 rcases Zi h14 with ⟨rfl, g14⟩ | ⟨rfl, g14⟩
 ·refine Zq J (Zw (Zb (Zg (Zg (Zc (Za 45 J J J (Zj J Wp J J (Za 46 J J J (Zn J Yz J J (Za 47 J J J (Yk J J J ?_))))))))))); intro c47 h47
  refine Vx (Zb ?_)
  rcases Zi h47 with ⟨rfl, g47⟩ | ⟨rfl, g47⟩
  ·refine Zq J (Zw (Zb (Zg (Zg (Wk 135 (True) Wi J ?_ _ _ J ?_)))))
   ·skip
    refine Zk 104 J J (Zj J Wp J J ⟨J, J⟩) ?_
    refine Zk 105 J J (Zn J Yz J J ⟨J, J⟩) ?_
    refine Xn 106 J J (fun _ q => Xp J J J q) ?_; intro c106 h106
    refine Zk 107 J J (Zd J J ⟨J, J⟩) ?_
    rcases Zi h106 with ⟨rfl, g106⟩ | ⟨rfl, g106⟩
    ·skip
     refine Zs 108 J J J J (Zj J tf_30_2 J J ⟨J, J⟩) ?_
     refine Zs 109 J J J J (Zn J Xb J J ⟨J, J⟩) ?_
     refine Yy 110 J J J J (fun _ q => op_sneq J J J q) ?_; intro c110 h110
     refine Zk 111 J J (Zm J J J ⟨J, J⟩) ?_
     refine Zk 112 J J (Zd J J ⟨J, J⟩) ?_
     rcases Zi h110 with ⟨rfl, g110⟩ | ⟨rfl, g110⟩
     ·skip
      refine Zs 113 J J J J (Zj J Xu J J ⟨J, J⟩) ?_
      refine Zs 114 J J J J (Zn J Yz J J ⟨J, J⟩) ?_
      refine Yy 115 J J J J (fun _ q => Ys J J J q) ?_; intro c115 h115
      refine Zk 116 J J (Zm J J J ⟨J, J⟩) ?_
      refine Zk 117 J J (Zd J J ⟨J, J⟩) ?_
      rcases Zi h115 with ⟨rfl, g115⟩ | ⟨rfl, g115⟩
      ·skip
       refine Zs 118 J J J J (Zj J Xu J J ⟨J, J⟩) ?_
       refine Zs 119 J J J J (Zn J Yz J J ⟨J, J⟩) ?_
       refine Zs 120 J J J J (Zj J Wn J J ⟨J, J⟩) ?_
       refine Zs 121 J J J J (Zn J Vq J J ⟨J, J⟩) ?_
       refine Zs 122 J J J J (Yv J tu_36 J (.seq _ _) (fun _ => ⟨J, J⟩)) ?_
       refine Yy 123 J J J J (fun _ q => Xx J J J q) ?_; intro c123 h123
       refine Zk 124 J J (Zm J J J ⟨J, J⟩) ?_
       refine Zk 125 J J (Zd J J ⟨J, J⟩) ?_
       rcases Zi h123 with ⟨rfl, g123⟩ | ⟨rfl, g123⟩
       ·omega
       ·skip
        refine Ze 126 J J J J (Ze 127 J J J J (Ze 128 J J J J (Ze 129 J J J J (Ze 130 J J J J (Ze 131 J J J J ?_)))))
        refine Ze 132 J J J J (Ze 133 J J J J (Ze 134 J J J J (Zk 135 J J (Zm J J J ⟨J, J⟩) ?_)))
        show BoolQ _ _ _ _ _ _
        refine Ui J ?_ by5 by3
        first | (simp_all; done) | grind
      ·skip
       refine Ze 118 J J J J (Ze 119 J J J J (Ze 120 J J J J (Ze 121 J J J J (Ze 122 J J J J (Ze 123 J J J J ?_)))))
       refine Zk 124 J J (Zm J J J ⟨J, J⟩) ?_
       refine Zk 125 J J (Zd J J ⟨J, J⟩) ?_
       refine Ze 126 J J J J (Ze 127 J J J J (Ze 128 J J J J (Ze 129 J J J J (Ze 130 J J J J (Ze 131 J J J J ?_)))))
       refine Ze 132 J J J J (Ze 133 J J J J (Ze 134 J J J J (Zk 135 J J (Zm J J J ⟨J, J⟩) ?_)))
       show BoolQ _ _ _ _ _ _
       refine Ui J ?_ by5 by3
       first | (simp_all; done) | grind
     ·skip
      refine Ze 113 J J J J (Ze 114 J J J J (Ze 115 J J J J (Zk 116 J J (Zm J J J ⟨J, J⟩) ?_)))
      refine Zk 117 J J (Zd J J ⟨J, J⟩) ?_
      refine Ze 118 J J J J (Ze 119 J J J J (Ze 120 J J J J (Ze 121 J J J J (Ze 122 J J J J (Ze 123 J J J J ?_)))))
      refine Zk 124 J J (Zm J J J ⟨J, J⟩) ?_
      refine Zk 125 J J (Zd J J ⟨J, J⟩) ?_
      refine Ze 126 J J J J (Ze 127 J J J J (Ze 128 J J J J (Ze 129 J J J J (Ze 130 J J J J (Ze 131 J J J J ?_)))))
      refine Ze 132 J J J J (Ze 133 J J J J (Ze 134 J J J J (Zk 135 J J (Zm J J J ⟨J, J⟩) ?_)))
      show BoolQ _ _ _ _ _ _
      refine Ui J ?_ by5 by3
      first | (simp_all; done) | grind
    ·skip
     refine Ze 108 J J J J (Ze 109 J J J J (Ze 110 J J J J (Zk 111 J J (Zm J J J ⟨J, J⟩) ?_)))
     refine Zk 112 J J (Zd J J ⟨J, J⟩) ?_
     refine Ze 113 J J J J (Ze 114 J J J J (Ze 115 J J J J (Zk 116 J J (Zm J J J ⟨J, J⟩) ?_)))
     refine Zk 117 J J (Zd J J ⟨J, J⟩) ?_
     refine Ze 118 J J J J (Ze 119 J J J J (Ze 120 J J J J (Ze 121 J J J J (Ze 122 J J J J (Ze 123 J J J J ?_)))))
     refine Zk 124 J J (Zm J J J ⟨J, J⟩) ?_
     refine Zk 125 J J (Zd J J ⟨J, J⟩) ?_
     refine Ze 126 J J J J (Ze 127 J J J J (Ze 128 J J J J (Ze 129 J J J J (Ze 130 J J J J (Ze 131 J J J J ?_)))))
     refine Ze 132 J J J J (Ze 133 J J J J (Ze 134 J J J J (Zk 135 J J (Zm J J J ⟨J, J⟩) ?_)))
     show BoolQ _ _ _ _ _ _
     refine Ui J ?_ by5 by3
     first | (simp_all; done) | grind
   intro c135 h135
   refine Zb ?_
   rcases Zi h135 with ⟨rfl, g135⟩ | ⟨rfl, g135⟩
   ·exact absurd trivial g135
   ·exact Zu J (Zg (Zc (Za 8 J J J (Zf J J (Vx (Zb (Ya (Yf J J (Ue _) (Vz _) ⟨⟨false, by simp, J⟩, J⟩))))))))
  ·exact absurd g47 (by decide)
 ·exact absurd g14 (by decide)
set_option maxHeartbeats 4000000 in
set_option maxRecDepth 100000 in
theorem rHolds3_in (v : En) (hv : EnG v) (gs : List Pr) (i : Nat) (c : ByteArray) (y : In) (hy : v.ins[i]? = some y) (ks : List Pf) (p : Pr) (HX : ∀ x ∈ ks, ∀ q ∈ needsR v i p.t, BCall Tryz.prog 15 [.agg v.cells, .seq 5 (Pr.cellss gs), .agg x.cells, .agg q.cells] (holdsP v gs x q)) : BCall Tryz.prog 15 [.agg v.cells, .seq 5 (Pr.cellss gs), .agg (Pf.mk 3 i c ks).cells, .agg p.cells] ((c = kE ∧ fitsP y p) ∧ holdsL v gs ks (needsR v i p.t)) := by
 have HN := rNeeds_c v hv i p.t
 have HF := rFits_c y p
 unfold fitsP
 have hlb := needsR_len hv.b i p.t
 clear hv
 generalize needsR v i p.t = l at *
 generalize (y.c = p.c ∧ p.t.kind = 3 ∧ y.hd.name = p.t.name ∧ y.hd.kids.length = p.t.kids.length) = Q at *
 obtain ⟨R, hR⟩ : ∃ R : List Pf → List Pr → Prop, R = holdsL v gs := ⟨_, rfl⟩
 have hR0 : R [] [] := by rw [hR, holdsL]; trivial
 have hR1 : ∀ x xs q qs, R (x :: xs) (q :: qs) = (holdsP v gs x q ∧ R xs qs) := fun x xs q qs => by rw [hR, holdsL]
 have hRl : ∀ xs qs, R xs qs → xs.length = qs.length := fun xs qs h => by rw [hR] at h; exact holdsL_len h
 rw [← hR]
 clear hR
 generalize holdsP v gs = P at *
 have hll := Pr.cellss_len l
 have hkl := Pf.cellss_len ks
 have hcy := In.cellss_get hy
 have hyl := Vf hy
 obtain ⟨pc, ⟨pk, ps, pn, pl⟩⟩ := p
 obtain ⟨da, cl, ins⟩ := v
 have hil := In.cellss_len ins
 obtain ⟨yc, ⟨yk, ys, yn, yl⟩, ycx, ybs, yp⟩ := y
 simp only [En.cells, Pf.cells, Pr.cells, Ty.cells, In.cells, En.ins, Pr.t, List.cons_append, List.nil_append] at *
 refine Zv Tryz.func15 J (by kernel_rfl) J (Uk J) ?_
 refine Ye (Zg (Zc (Za 4 J J J (Yj (cs' := [_, _, _]) J J J J (Za 6 J J J (Yj (cs' := [_, _, _, _]) J J J J (Za 7 J J J (Yj (cs' := [_, _, _, _, _]) J J J J (Za 8 J J J (Zf J J ?_))))))))))
 refine Vx (Zb (Zg (Zg (Zc (Za 12 J J J (Zj J Wp J J (Za 13 J J J (Zn J Yz J J (Za 14 J J J (Yk J J J ?_)))))))))); intro c14 h14
 refine Vx (Zb ?_)
 rcases Zi h14 with ⟨rfl, g14⟩ | ⟨rfl, g14⟩
 ·refine Zq J (Zw (Zb (Zg (Zg (Zc (Za 45 J J J (Zj J Wp J J (Za 46 J J J (Zn J Yz J J (Za 47 J J J (Yk J J J ?_))))))))))); intro c47 h47
  refine Vx (Zb ?_)
  rcases Zi h47 with ⟨rfl, g47⟩ | ⟨rfl, g47⟩
  ·refine Zq J (Zw (Zb (Zg (Zg (Wk 135 (¬ (c = kE ∧ Q)) Wi J ?_ _ _ J ?_)))))
   ·skip
    refine Zk 104 J J (Zj J Wp J J ⟨J, J⟩) ?_
    refine Zk 105 J J (Zn J Yz J J ⟨J, J⟩) ?_
    refine Xn 106 J J (fun _ q => Xp J J J q) ?_; intro c106 h106
    refine Zk 107 J J (Zd J J ⟨J, J⟩) ?_
    rcases Zi h106 with ⟨rfl, g106⟩ | ⟨rfl, g106⟩
    ·skip
     refine Zs 108 J J J J (Zj J tf_30_2 J J ⟨J, J⟩) ?_
     refine Zs 109 J J J J (Zn J Xb J J ⟨J, J⟩) ?_
     refine Yy 110 J J J J (fun _ q => op_sneq J J J q) ?_; intro c110 h110
     refine Zk 111 J J (Zm J J J ⟨J, J⟩) ?_
     refine Zk 112 J J (Zd J J ⟨J, J⟩) ?_
     rcases Zi h110 with ⟨rfl, g110⟩ | ⟨rfl, g110⟩
     ·skip
      refine Zs 113 J J J J (Zj J Xu J J ⟨J, J⟩) ?_
      refine Zs 114 J J J J (Zn J Yz J J ⟨J, J⟩) ?_
      refine Yy 115 J J J J (fun _ q => Ys J J J q) ?_; intro c115 h115
      refine Zk 116 J J (Zm J J J ⟨J, J⟩) ?_
      refine Zk 117 J J (Zd J J ⟨J, J⟩) ?_
      rcases Zi h115 with ⟨rfl, g115⟩ | ⟨rfl, g115⟩
      ·skip
       refine Zs 118 J J J J (Zj J Xu J J ⟨J, J⟩) ?_
       refine Zs 119 J J J J (Zn J Yz J J ⟨J, J⟩) ?_
       refine Zs 120 J J J J (Zj J Wn J J ⟨J, J⟩) ?_
       refine Zs 121 J J J J (Zn J Vq J J ⟨J, J⟩) ?_
       refine Zs 122 J J J J (Yv J tu_36 J (.seq _ _) (fun _ => ⟨J, J⟩)) ?_
       refine Yy 123 J J J J (fun _ q => Xx J J J q) ?_; intro c123 h123
       refine Zk 124 J J (Zm J J J ⟨J, J⟩) ?_
       refine Zk 125 J J (Zd J J ⟨J, J⟩) ?_
       rcases Zi h123 with ⟨rfl, g123⟩ | ⟨rfl, g123⟩
       ·skip
        refine Zs 126 J J J J (Zj J Wn J J ⟨J, J⟩) ?_
        refine Zs 127 J J J J (Zn J Vq J J ⟨J, J⟩) ?_
        refine Zs 128 J J J J (Zj J Xu J J ⟨J, J⟩) ?_
        refine Zs 129 J J J J (Zn J Yz J J ⟨J, J⟩) ?_
        refine Zs 130 J J J J (Yd J te_36 J (.seq _ _) J J (hcy) ⟨J, J⟩) ?_
        refine Zs 131 J J J J (Yb (cs' := [_, _, _, _, _, _, _, _]) J ta_73 J J J ⟨J, J⟩) ?_
        refine Zs 132 J J J J (Yb (cs' := [_, _, _, _, _]) J ta_27 J J J ⟨J, J⟩) ?_
        refine Yy 133 J J J J (fun _ q => Yg (xs := [.tmp 131, .tmp 132]) J J (HF) by1 q) ?_; intro c133 h133
        refine Yy 134 J J J J (fun _ q => Wf J J q) ?_; intro c134 h134
        try replace h134 := nott h134 h133
        refine Zk 135 J J (Zm J J J ⟨J, J⟩) ?_
        show BoolQ _ _ _ _ _ _
        refine Ui J ?_ by5 by3
        clear HN HF HX; first | (simp_all; done) | (simp_all; omega) | grind
       ·skip
        refine Ze 126 J J J J (Ze 127 J J J J (Ze 128 J J J J (Ze 129 J J J J (Ze 130 J J J J (Ze 131 J J J J ?_)))))
        refine Ze 132 J J J J (Ze 133 J J J J (Ze 134 J J J J (Zk 135 J J (Zm J J J ⟨J, J⟩) ?_)))
        show BoolQ _ _ _ _ _ _
        refine Ui J ?_ by5 by3
        clear HN HF HX; first | (simp_all; done) | (simp_all; omega) | grind
      ·skip
       refine Ze 118 J J J J (Ze 119 J J J J (Ze 120 J J J J (Ze 121 J J J J (Ze 122 J J J J (Ze 123 J J J J ?_)))))
       refine Zk 124 J J (Zm J J J ⟨J, J⟩) ?_
       refine Zk 125 J J (Zd J J ⟨J, J⟩) ?_
       refine Ze 126 J J J J (Ze 127 J J J J (Ze 128 J J J J (Ze 129 J J J J (Ze 130 J J J J (Ze 131 J J J J ?_)))))
       refine Ze 132 J J J J (Ze 133 J J J J (Ze 134 J J J J (Zk 135 J J (Zm J J J ⟨J, J⟩) ?_)))
       show BoolQ _ _ _ _ _ _
       refine Ui J ?_ by5 by3
       clear HN HF HX; first | (simp_all; done) | (simp_all; omega) | grind
     ·skip
      refine Ze 113 J J J J (Ze 114 J J J J (Ze 115 J J J J (Zk 116 J J (Zm J J J ⟨J, J⟩) ?_)))
      refine Zk 117 J J (Zd J J ⟨J, J⟩) ?_
      refine Ze 118 J J J J (Ze 119 J J J J (Ze 120 J J J J (Ze 121 J J J J (Ze 122 J J J J (Ze 123 J J J J ?_)))))
      refine Zk 124 J J (Zm J J J ⟨J, J⟩) ?_
      refine Zk 125 J J (Zd J J ⟨J, J⟩) ?_
      refine Ze 126 J J J J (Ze 127 J J J J (Ze 128 J J J J (Ze 129 J J J J (Ze 130 J J J J (Ze 131 J J J J ?_)))))
      refine Ze 132 J J J J (Ze 133 J J J J (Ze 134 J J J J (Zk 135 J J (Zm J J J ⟨J, J⟩) ?_)))
      show BoolQ _ _ _ _ _ _
      refine Ui J ?_ by5 by3
      clear HN HF HX; first | (simp_all; done) | (simp_all; omega) | grind
    ·skip
     refine Ze 108 J J J J (Ze 109 J J J J (Ze 110 J J J J (Zk 111 J J (Zm J J J ⟨J, J⟩) ?_)))
     refine Zk 112 J J (Zd J J ⟨J, J⟩) ?_
     refine Ze 113 J J J J (Ze 114 J J J J (Ze 115 J J J J (Zk 116 J J (Zm J J J ⟨J, J⟩) ?_)))
     refine Zk 117 J J (Zd J J ⟨J, J⟩) ?_
     refine Ze 118 J J J J (Ze 119 J J J J (Ze 120 J J J J (Ze 121 J J J J (Ze 122 J J J J (Ze 123 J J J J ?_)))))
     refine Zk 124 J J (Zm J J J ⟨J, J⟩) ?_
     refine Zk 125 J J (Zd J J ⟨J, J⟩) ?_
     refine Ze 126 J J J J (Ze 127 J J J J (Ze 128 J J J J (Ze 129 J J J J (Ze 130 J J J J (Ze 131 J J J J ?_)))))
     refine Ze 132 J J J J (Ze 133 J J J J (Ze 134 J J J J (Zk 135 J J (Zm J J J ⟨J, J⟩) ?_)))
     show BoolQ _ _ _ _ _ _
     refine Ui J ?_ by5 by3
     clear HN HF HX; first | (simp_all; done) | (simp_all; omega) | grind
   intro c135 h135
   refine Zb ?_
   rcases Zi h135 with ⟨rfl, g135⟩ | ⟨rfl, g135⟩
   ·refine Zq J (Zw (Zb (Zg ?_)))
    have hcQ := Classical.not_not.1 g135
    refine Zc (Za 136 J J J (Yb (cs' := [_, _, _]) J Wb J J J (Za 137 J J J (Zj J Xu J J (Za 138 J J J (Zn J Yz J J (Za 139 J J J (Zj J Wa J J (Za 140 J J J (Yb (cs' := [_, _, _, _]) J Xt J J J ?_))))))))))
    refine Za 141 J J J (Yn (xs := [.tmp 136, .tmp 138, .tmp 140]) J J (HN) by1 ?_)
    refine Za 10 J J J (Zf J J (Vx (Zb (Zg (Zg (Zc (Za 142 J J J (Zd J J ?_))))))))
    refine Za 143 J J J (Yv J tu_22 J (.seq _ _) (fun n143 => ?_))
    refine Za 144 J J J (Zj J Vj J J (Za 145 J J J (Zn J ta_28 J J ?_)))
    refine Za 146 J J J (Yv J tu_28 J (.seq _ _) (fun n146 => ?_))
    refine Za 147 J J J (Xp J J J ?_); intro c147 h147
    refine Vx (Zb ?_)
    rcases Zi h147 with ⟨rfl, g147⟩ | ⟨rfl, g147⟩
    ·refine Zq J (Zw (Zb (Zg (Zg (Zc (Za 11 J J J (Zf J J (Vx (Zb (Zz ?_))))))))))
     have hlk : l.length = ks.length := by omega
     apply Xl [0, 2, 3, 5, 7, 8, 9, 11, 12, 13, 14, 15, 16, 17, 18, 19, 20, 21, 22, 23, 24, 25, 26, 27, 28, 29, 30, 31, 32, 33, 34, 35, 36, 37, 38, 39, 40, 41, 42, 43, 44, 45, 46, 47, 48, 49, 50, 51, 52, 53, 54, 55, 56, 57, 58, 59, 60, 61, 62, 63, 64, 65, 66, 67, 68, 69, 70, 71, 72, 73, 74, 75, 76, 77, 78, 79, 80, 81, 82, 83, 84, 85, 86, 87, 88, 89, 90, 91, 92, 93, 94, 95, 96, 97, 98, 99, 100, 101, 102, 103, 104, 105, 106, 107, 108, 109, 110, 111, 112, 113, 114, 115, 116, 117, 118, 119, 120, 121, 122, 123, 124, 125, 126, 127, 128, 129, 130, 131, 132, 133, 134, 135, 136, 137, 138, 139, 140, 141, 142, 143, 144, 145, 146, 147, 148, 149, 150, 151, 152, 153, 154, 155, 156, 157, 158, 159, 160, 161, 162, 163, 164, 165, 166] (σ := Nat) (fun zz => match zz with | k => [(11, .val (.int .i64 k))]) (fun zz => match zz with | k => k ≤ l.length ∧ (R (ks.drop k) (l.drop k) ↔ R ks l)) (fun zz => match zz with | k => l.length - k) (0)
     ·repeat' (first | exact Un | apply Ul rfl | apply Um rfl)
     ·exact ⟨Nat.zero_le _, by rw [List.drop_zero, List.drop_zero]⟩
     ·exact by4
     rintro k hI
     try dsimp only [List.cons_append, List.nil_append] at hI ⊢
     obtain ⟨hi, hf⟩ := hI
     refine Zg (Zg (Zc (Za 148 J J J (Zd J J (Za 149 J J J (Zd J J ?_))))))
     refine Za 150 J J J (Yv J tu_22 J (.seq _ _) (fun n150 => ?_))
     refine Za 151 J J J (Ys J J J ?_); intro c151 h151
     refine Vx (Zb ?_)
     rcases Zi h151 with ⟨rfl, g151⟩ | ⟨rfl, g151⟩
     ·refine Zq J (Xd (Xf (Xz (Xe (Zb (Zg (Zc (Za 8 J J J (Zf J J (Vx (Zb (Ya ?_))))))))))))
      rw [Ur (by omega), Ur (by omega)] at hf
      exact Yf J J (Ue _) (Vz _) ⟨⟨true, by simp only [true_iff]; exact ⟨hcQ, hf.1 hR0⟩, J⟩, J⟩
     ·refine Zu J (Zw (Zb (Zg (Zz (Zg ?_)))))
      obtain ⟨⟨qc, ⟨qtk, qts, qtn, qtl⟩⟩, hxq⟩ := Yu (l := l) (i := k) by7
      have hcq := Pr.cellss_get hxq
      have hmq := Uq hxq
      obtain ⟨⟨xk, xn, xc, xl⟩, hxx⟩ := Yu (l := ks) (i := k) (by omega)
      have hcx := Pf.cellss_get hxx
      have HXq := HX _ (Uq hxx) _ hmq
      rw [Xs hxx, Xs hxq, hR1] at hf
      simp only [Pf.cells, Ty.cells] at hcx HXq
      refine Vk Wi J (Zk 154 J J (Yb (cs' := [_, _, _]) J Wb J J J ⟨J, J⟩) ?_)
      refine Zk 155 J J (Zd J J ⟨J, J⟩) ?_
      refine Zk 156 J J (Zj J Vj J J ⟨J, J⟩) ?_
      refine Zk 157 J J (Zn J ta_28 J J ⟨J, J⟩) ?_
      refine Zk 158 J J (Zd J J ⟨J, J⟩) ?_
      refine Zk 159 J J (Yd J te_28 J (.seq _ _) J J (by first | exact hcx | exact hcq) ⟨J, J⟩) ?_
      refine Zk 160 J J (Yb (cs' := [_, _, _, _]) J Vm J J J ⟨J, J⟩) ?_
      refine Zk 161 J J (Zd J J ⟨J, J⟩) ?_
      refine Zk 162 J J (Zd J J ⟨J, J⟩) ?_
      refine Zk 163 J J (Yd J te_22 J (.seq _ _) J J (by first | exact hcx | exact hcq) ⟨J, J⟩) ?_
      refine Zk 164 J J (Yb (cs' := [_, _, _, _, _]) J ta_27 J J J ⟨J, J⟩) ?_
      refine Xn 165 J J (fun _ q => Yg (xs := [.tmp 154, .tmp 155, .tmp 160, .tmp 164]) J J (HXq) by1 q) ?_; intro c165 h165
      refine Xn 166 J J (fun _ q => Wf J J q) ?_; intro c166 h166
      try replace h166 := nott h166 h165
      show AGo _ _ _ _ _ _ _
      refine Zb ?_
      rcases Zi h166 with ⟨rfl, g166⟩ | ⟨rfl, g166⟩
      ·refine Zq J (Zw (Yw (Zb (Zc (Za 152 J J J (Zd J J (Za 153 J J J (Yx J J J (Uo _ (by omega)) ?_))))))))
       refine Za 11 J J J (Zf J J (Vx (Xc ?_)))
       exact ⟨k + 1, ⟨by show k + 1 ≤ l.length; omega, ⟨fun h => hf.1 ⟨Classical.not_not.1 g166, h⟩, fun h => (hf.2 h).2⟩⟩, by show l.length - (k + 1) < l.length - k; omega, by4, by3⟩
      ·refine Zu J (Zg (Zc (Za 8 J J J (Zf J J (Vx (Zb (Ya ?_)))))))
       exact Yf J J (Ue _) (Vz _) ⟨⟨false, by simp only [Bool.false_eq_true, false_iff]; exact fun q => g166 (hf.2 q.2).1, J⟩, J⟩
    ·refine Zu J (Zg (Zc (Za 8 J J J (Zf J J (Vx (Zb (Ya ?_)))))))
     exact Yf J J (Ue _) (Vz _) ⟨⟨false, by simp only [Bool.false_eq_true, false_iff]; exact fun q => g147 (by have := hRl _ _ q.2; omega), J⟩, J⟩
   ·refine Zu J (Zg (Zc (Za 8 J J J (Zf J J (Vx (Zb (Ya ?_)))))))
    exact Yf J J (Ue _) (Vz _) ⟨⟨false, by simp only [Bool.false_eq_true, false_iff]; exact fun q => g135 q.1, J⟩, J⟩
  ·exact absurd g47 (by decide)
 ·exact absurd g14 (by decide)
theorem rHolds_c (v : En) (hv : EnC v) (gs : List Pr) : ∀ (d : Nat) (x : Pf), x.size ≤ d → ∀ p : Pr, BCall Tryz.prog 15 [.agg v.cells, .seq 5 (Pr.cellss gs), .agg x.cells, .agg p.cells] (holdsP v gs x p)
 | 0, x, h, _ => by cases x; simp [Pf.size] at h
 | d + 1, .mk k n c ks, h, p => by
  rw [Pf.size] at h
  have IH : ∀ x ∈ ks, ∀ p : Pr, _ := fun x hx p => rHolds_c v hv gs d x (by have := Pf.size_mem hx; omega) p
  by_cases h1 : k = 1
  ·subst h1
   by_cases hn : n < 0 ∨ gs.length ≤ n
   ·refine bsame (rHolds1_out v gs n hn c ks p) ?_
    rw [holds_1]
    refine ⟨False.elim, fun q => ?_⟩
    have := Vf q.2.2.2
    omega
   ·obtain ⟨i, rfl⟩ : ∃ i : Nat, n = i := ⟨n.toNat, by omega⟩
    obtain ⟨g, hg⟩ := Yu (l := gs) (i := i) (by omega)
    refine bsame (rHolds1_in v gs i g hg c ks p) ?_
    rw [holds_1, show ((i : Int)).toNat = i by omega, hg]
    simp
  by_cases h2 : k = 2
  ·subst h2
   by_cases hc : 0 ≤ classI v c
   ·obtain ⟨j, z, hj, hz, hs⟩ := classI_hit hc
    by_cases hn : n < 0 ∨ z.su.length ≤ n ∨ ks.length ≠ 1
    ·refine bsame (rHolds2_out v gs n c j z hj hz ks hn p) ?_
     rw [holds_2, hs]
     refine ⟨False.elim, fun q => ?_⟩
     have h1 := Vf q.2.2.1
     have h2 := holdsL_len q.2.2.2
     simp only [List.length_cons, List.length_nil] at h2
     omega
    ·obtain ⟨i, rfl⟩ : ∃ i : Nat, n = i := ⟨n.toNat, by omega⟩
     obtain ⟨s, hsi⟩ := Yu (l := z.su) (i := i) (by omega)
     obtain ⟨x, rfl⟩ := List.length_eq_one_iff.1 (show ks.length = 1 by omega)
     refine bsame (rHolds2_go v gs i c j z hj hz x p s hsi _ (IH x (by simp) (.mk c p.t))) ?_
     rw [holds_2, hs, show ((i : Int)).toNat = i by omega, hsi, holdsL_one]
     exact ⟨fun q => ⟨hc, by omega, by rw [q.1], x, rfl, q.2⟩, fun ⟨_, _, he, y, hy, hq⟩ => by cases hy; exact ⟨by simpa using he, hq⟩⟩
   ·refine bsame (rHolds2_no v gs n c hc ks p) ?_
    rw [holds_2]
    exact ⟨False.elim, fun q => hc q.1⟩
  by_cases h3 : k = 3
  ·subst h3
   by_cases hn : n < 0 ∨ v.ins.length ≤ n
   ·refine bsame (rHolds3_out v gs n c hn ks p) ?_
    rw [holds_3]
    refine ⟨False.elim, fun ⟨_, _, ⟨y, hy, _⟩, _⟩ => ?_⟩
    have := Vf hy
    omega
   ·obtain ⟨i, rfl⟩ : ∃ i : Nat, n = i := ⟨n.toNat, by omega⟩
    obtain ⟨y, hy⟩ := Yu (l := v.ins) (i := i) (by omega)
    refine bsame (rHolds3_in v hv.g gs i c y hy ks p (fun x hx q _ => IH x hx q)) ?_
    rw [holds_3, show ((i : Int)).toNat = i by omega, hy]
    exact ⟨fun q => ⟨q.1.1, by omega, ⟨y, rfl, q.1.2⟩, q.2⟩, fun ⟨h1, _, ⟨y', he, hf⟩, h4⟩ => by cases he; exact ⟨⟨h1, hf⟩, h4⟩⟩
  exact bsame (rHolds0_c v gs k n c ks p h1 h2 h3) ⟨False.elim, holds_0 h1 h2 h3⟩
end Go.Proofs.YtknodnfbaofngaaGreat
namespace Go.Proofs.YtknodnfbaofngaaGreat
def srcB : ByteArray := ⟨#[100, 97, 116, 97, 32, 76, 105, 115, 116, 32, 97, 32, 61, 32, 78, 105, 108, 32, 124, 32, 67, 111, 110, 115, 32, 97, 32, 40, 76, 105, 115, 116, 32, 97, 41, 59, 32, 99, 108, 97, 115, 115, 32, 69, 113, 32, 97, 32, 119, 104, 101, 114, 101, 32, 101, 110, 100, 59, 32, 99, 108, 97, 115, 115, 32, 79, 114, 100, 32, 97, 32, 102, 114, 111, 109, 32, 69, 113, 32, 119, 104, 101, 114, 101, 32, 101, 110, 100, 59, 32, 105, 110, 115, 116, 97, 110, 99, 101, 32, 69, 113, 32, 73, 110, 116, 32, 119, 104, 101, 114, 101, 32, 101, 110, 100, 59, 32, 105, 110, 115, 116, 97, 110, 99, 101, 32, 69, 113, 32, 40, 76, 105, 115, 116, 32, 97, 41, 32, 102, 114, 111, 109, 32, 69, 113, 32, 97, 32, 119, 104, 101, 114, 101, 32, 101, 110, 100, 59, 32, 105, 110, 115, 116, 97, 110, 99, 101, 32, 79, 114, 100, 32, 40, 76, 105, 115, 116, 32, 97, 41, 32, 102, 114, 111, 109, 32, 79, 114, 100, 32, 97, 32, 119, 104, 101, 114, 101, 32, 101, 110, 100, 59]⟩
open Go.RowKit
def tyv (s : ByteArray) : Ty := .mk 1 s 0 []
def tyc (s : ByteArray) (l : List Ty) : Ty := .mk 3 s 0 l
abbrev sList : ByteArray := ⟨#[76, 105, 115, 116]⟩
abbrev sNil : ByteArray := ⟨#[78, 105, 108]⟩
abbrev sCons : ByteArray := ⟨#[67, 111, 110, 115]⟩
abbrev sa : ByteArray := ⟨#[97]⟩
abbrev sEq : ByteArray := ⟨#[69, 113]⟩
abbrev sOrd : ByteArray := ⟨#[79, 114, 100]⟩
abbrev sInt : ByteArray := ⟨#[73, 110, 116]⟩
def srcPg : Pg := .mk
 [.mk sList [sa] [.mk sNil [] 14, .mk sCons [tyv sa, tyc sList [tyv sa]] 20] [] 5]
 [.mk sEq sa [] [] [] 43, .mk sOrd sa [sEq] [] [] 65]
 [.mk sEq (tyc sInt []) [] [] 99, .mk sEq (tyc sList [tyv sa]) [.mk sEq (tyv sa)] [] 126, .mk sOrd (tyc sList [tyv sa]) [.mk sOrd (tyv sa)] [] 168] []
set_option maxRecDepth 100000 in
theorem src_pg : progT srcB = (srcPg, 0, 0) := by kernel_rfl
set_option maxRecDepth 100000 in
theorem src_check : checkR srcPg = (0, 0) := by kernel_rfl
section
variable {P : Program} {l : List Oper} {ws : List Nat} {anc : List (List Nat)} {QQ : Sl → Mem → Prop} {ord : List Nat} {al : Sl} {M : Mem} {L : List (Nat × Nat)} {o : Oper}
theorem EOps.dg {v : AV} {i j : Nat} {b : Bool} {t : Tmp} (d : Nat) (fp : Option Nat) (hi : l[i]? = some o) (hw : ws.contains i = false) (hg : o.guard = some (j, b)) (hj : (l[j]?).bind (·.dst) = some t) (hc : al.lookup t = some (.val (.bool b))) (hd : o.dst = some d) (hfp : fp.all (fun k => Nat.blt k M.length) = true) (h : OpT P { o with guard := none } (al.only (Oper.tmps o)) (fpm M fp) (fun v' M' => v' = v ∧ M' = fpm M fp)) (q : EOps P l ws anc QQ ord ((d, v) :: al) M ((fp.toList.map fun k => (i, k)) ++ L)) : EOps P l ws anc QQ (i :: ord) al M L :=
 ⟨o, hi, by rw [if_neg (by rw [hw]; simp)]; exact ⟨fp, v, hfp, by unfold DStep; rw [hg]; exact ⟨t, hj, .inl ⟨hc, h⟩⟩, by rw [hd]; exact q⟩⟩
theorem EOps.cmg {i j : Nat} {b : Bool} {t : Tmp} {p : Prop} (d : Nat) (hi : l[i]? = some o) (hw : ws.contains i = false) (hg : o.guard = some (j, b)) (hj : (l[j]?).bind (·.dst) = some t) (hc : al.lookup t = some (.val (.bool b))) (hd : o.dst = some d) (h : ∀ K : AV → Mem → Prop, (∀ c : Bool, (c = true ↔ p) → K (.val (.bool c)) []) → OpT P { o with guard := none } (al.only (Oper.tmps o)) [] K) (q : ∀ c : Bool, (c = true ↔ p) → EOps P l ws anc QQ ord ((d, .val (.bool c)) :: al) M L) : EOps P l ws anc QQ (i :: ord) al M L := by
 have : ∃ c : Bool, c = true ↔ p := by
  by_cases hp : p
  ·exact ⟨true, by simp [hp]⟩
  ·exact ⟨false, by simp [hp]⟩
 obtain ⟨c, hq⟩ := this
 refine EOps.dg d none hi hw hg hj hc hd J (h _ (fun c' hc' => ⟨?_, J⟩)) (q c hq)
 have : c' = c := by cases c <;> cases c' <;> simp_all
 rw [this]
theorem EOps.df {i j : Nat} {b : Bool} {t : Tmp} (d : Nat) (hi : l[i]? = some o) (hw : ws.contains i = false) (hg : o.guard = some (j, b)) (hj : (l[j]?).bind (·.dst) = some t) (hc : al.lookup t = some (.val (.bool !b))) (hd : o.dst = some d) (q : EOps P l ws anc QQ ord ((d, .val undef) :: al) M L) : EOps P l ws anc QQ (i :: ord) al M L :=
 ⟨o, hi, by rw [if_neg (by rw [hw]; simp)]; exact ⟨none, .val undef, rfl, by unfold DStep; rw [hg]; exact ⟨t, hj, .inr ⟨.inl hc, rfl⟩⟩, by rw [hd]; exact q⟩⟩
end
def psC (L : List Tok) (p : PS) : List AV := [.seq 4 (L.map Tok.av), .val (.int .i64 p.at_), .val (.int .i64 p.lv), .val (.int .i64 p.e), .val (.int .i64 p.wh)]
set_option maxHeartbeats 4000000 in
set_option maxRecDepth 100000 in
theorem next_c (b : Nat) (L : List Tok) (p : PS) : KCall Tryz.prog 50 [.ptr b 0] [.loc b (psC L p)] (.agg (nxt L p).av) := by
 obtain ⟨a, lv, e, wh⟩ := p
 have hl : (L.map Tok.av).length = L.length := List.length_map _
 simp only [psC]
 refine Zv Tryz.func50 J (by kernel_rfl) J (Uk J) ?_
 refine Ye (Zg (Zc (Za 2 J J J (Zy (cs' := [_, _, _, _]) J Wq J J ?_)))); intro b2
 refine Vx (Zb (Zg (Zg (Wk 19 (e ≠ 0 ∨ L.length ≤ a) Wi J ?_ _ _ J ?_))))
 ·skip
  refine Zk 3 J J (Zd J J ⟨J, J⟩) ?_
  refine Zk 4 J J (Yl J J ⟨J, J⟩) ?_
  refine Zk 5 J J (Zh J Vs J ⟨J, J⟩) ?_
  refine Zk 6 J J (Zp (i := 1) J Yz J J J ⟨J, J⟩) ?_
  refine Xn 7 J J (fun _ q => Xp J J J q) ?_; intro c7 h7
  refine Zk 8 J J (Zd J J ⟨J, J⟩) ?_
  rcases Zi h7 with ⟨rfl, g7⟩ | ⟨rfl, g7⟩
  ·skip
   refine Zs 9 J J J J (Zd J J ⟨J, J⟩) ?_
   refine Zs 10 J J J J (Yl J J ⟨J, J⟩) ?_
   refine Zs 11 J J J J (Zh J tf_95_1 J ⟨J, J⟩) ?_
   refine Zs 12 J J J J (Zp (i := 1) J Yz J J J ⟨J, J⟩) ?_
   refine Zs 13 J J J J (Zd J J ⟨J, J⟩) ?_
   refine Zs 14 J J J J (Yl J J ⟨J, J⟩) ?_
   refine Zs 15 J J J J (Zh J tf_95_0 J ⟨J, J⟩) ?_
   refine Zs 16 J J J J (Zp (i := 1) J ta_93 J J J ⟨J, J⟩) ?_
   refine Zs 17 J J J J (Yv J tu_93 J (.seq _ _) (fun _ => ⟨J, J⟩)) ?_
   refine Yy 18 J J J J (fun _ q => Xx J J J q) ?_; intro c18 h18
   refine Zk 19 J J (Zm J J J ⟨J, J⟩) ?_
   show BoolQ _ _ _ _ _ _
   refine Ui J ?_ by5 by3
   simp_all; done
  ·skip
   refine Ze 9 J J J J (Ze 10 J J J J (Ze 11 J J J J (Ze 12 J J J J (Ze 13 J J J J (Ze 14 J J J J ?_)))))
   refine Ze 15 J J J J (Ze 16 J J J J (Ze 17 J J J J (Ze 18 J J J J (Zk 19 J J (Zm J J J ⟨J, J⟩) ?_))))
   show BoolQ _ _ _ _ _ _
   refine Ui J ?_ by5 by3
   simp_all; done
 intro c19 h19
 refine Zb ?_
 rcases Zi h19 with ⟨rfl, g19⟩ | ⟨rfl, g19⟩
 ·refine Zq J (Zw (Zb (Zg ?_)))
  obtain ⟨t, ht⟩ := Yu (l := L) (i := a) (by omega)
  have htc : (L.map Tok.av)[a]? = some t.av := by rw [List.getElem?_map, ht]; rfl
  refine Wc [0, 1, 2, 3, 4, 5, 6, 7, 8, 9, 10] [10] [[], [0], [0, 1], [0, 1, 2], [], [4], [4, 5], [4, 5, 6], [0, 1, 2, 3, 4, 5, 6, 7], [0, 1, 2, 3, 4, 5, 6, 7, 8], [0, 1, 2, 3, 4, 5, 6, 7, 8, 9]] Wi J (Yc 21 (none) (i := 0) J J J J J (Zd J J ⟨J, J⟩) ?_)
  refine Yc 22 (none) (i := 1) J J J J J (Yl J J ⟨J, J⟩) ?_
  refine Yc 23 (none) (i := 2) J J J J J (Zh J tf_95_0 J ⟨J, J⟩) ?_
  refine Yc 24 (some 1) (i := 3) J J J J J (Zp (i := 0) J ta_93 J J J ⟨J, J⟩) ?_
  refine Yc 25 (none) (i := 4) J J J J J (Zd J J ⟨J, J⟩) ?_
  refine Yc 26 (none) (i := 5) J J J J J (Yl J J ⟨J, J⟩) ?_
  refine Yc 27 (none) (i := 6) J J J J J (Zh J tf_95_1 J ⟨J, J⟩) ?_
  refine Yc 28 (some 1) (i := 7) J J J J J (Zp (i := 0) J Yz J J J ⟨J, J⟩) ?_
  refine Yc 29 (none) (i := 8) J J J J J (Yd J te_93 J (.seq _ _) J J (htc) ⟨J, J⟩) ?_
  refine Yc 30 (none) (i := 9) J J J J J (Yb (cs' := [_, _, _, _]) J Yt J J J ⟨J, J⟩) ?_
  refine Xo 0 (i := 10) J J J J J (Zr (cs' := [_, _, _, _]) (i := 0) J Xk J J J J J (Uk J) J ⟨_, J, ?_⟩)
  show AGo _ _ _ _ _ _ _
  refine Zb (Ya ?_)
  first | refine Ym (i := 0) J J J Yt J (Ue _) by3 ⟨?_, J⟩ | refine Ym (i := 1) J J J Yt J (Ue _) by3 ⟨?_, J⟩
  have hn : nxt L ⟨a, lv, e, wh⟩ = t := by
   unfold nxt
   rw [if_neg (fun q => g19 (.inl q)), ht]; rfl
  rw [hn]; rfl
 ·refine Zu J (Zg (Zc (Za 20 J J J (Yo (ns := []) (xs := []) J Wq J tfl_97 J J J J (Zt J J (Zr (cs' := [_, _, _, _]) (i := 0) J Xk J J J J J (Uk J) J (Vx (Zb (Ya ?_)))))))))
  first | refine Ym (i := 0) J J J Yt J (Ue _) by3 ⟨?_, J⟩ | refine Ym (i := 1) J J J Yt J (Ue _) by3 ⟨?_, J⟩
  have hn : nxt L ⟨a, lv, e, wh⟩ = tok0 0 := by
   unfold nxt
   by_cases q : e ≠ 0
   ·rw [if_pos q]
   ·rw [if_neg q, List.getElem?_eq_none (g19.resolve_left q)]; rfl
  rw [hn]; rfl
set_option maxHeartbeats 4000000 in
set_option maxRecDepth 100000 in
theorem is_p (b : Nat) (L : List Tok) (p : PS) (s : ByteArray) : KBCall Tryz.prog 80 [.ptr b 0, .val (.string s)] [.loc b (psC L p)] (isP L p s = true) := by
 have HN := next_c b L p
 have hI : isP L p s = true ↔ (6 ≤ (nxt L p).k ∧ (nxt L p).t = s) := by unfold isP; simp
 generalize isP L p s = c at *
 generalize nxt L p = t at *
 obtain ⟨tk, tt, tn, ta⟩ := t
 simp only [Tok.av] at HN hI
 refine Zv Tryz.func80 J (by kernel_rfl) J (Uk J) ?_
 refine Ye (Zg (Zc (Za 4 J J J (Zf J J (Vx (Zb (Zg (Zc (Za 6 J J J (Zd J J (Za 7 J J J (Ww (xs := [.tmp 6]) [0] J J J (HN) by1 ?_))))))))))))
 refine Za 5 J J J (Zy (cs' := [_, _, _, _]) J Wq J J ?_); intro b5
 refine Zt J J (Zr (cs' := [_, _, _, _]) (i := 0) J Xk J J J J J (Uk J) J (Vx (Zb (Zg (Xm 4 (6 ≤ tk ∧ tt = s) ?_ _ _ J ?_)))))
 ·skip
  refine Za 8 J J J (Zh J Xg J (Za 9 J J J (Zp (i := 0) J Yz J J J (Za 10 J J J (Xx J J J ?_))))); intro c10 h10
  refine Za 11 J J J (Zd J J ?_)
  rcases Zi h10 with ⟨rfl, g10⟩ | ⟨rfl, g10⟩
  ·skip
   refine Zl 12 J J J J J (Zl 13 J J J J J (Zl 14 J J J J J (Zl 15 J J J J J (Za 16 J J J (Zm J J J (Za 4 J J J (Zf J J ?_)))))))
   refine Vx (Ui J ?_ by5 by3)
   clear HN hI; first | (simp_all; done) | grind
  ·skip
   refine Zo 12 J J J J J (Zh J Xi J (Zo 13 J J J J J (Zp (i := 0) J Xb J J J (Zo 14 J J J J J (Zd J J (Zo 15 J J J J J (Xv J J J ?_))))))); intro c15 h15
   refine Za 16 J J J (Zm J J J (Za 4 J J J (Zf J J (Vx (Ui J ?_ by5 by3)))))
   clear HN hI; first | (simp_all; done) | grind
 intro c4 h4
 exact Zb (Ya (Yf J J (Ue _) by3 ⟨⟨_, h4.trans hI.symm, J⟩, J⟩))
set_option maxHeartbeats 4000000 in
set_option maxRecDepth 100000 in
theorem fail_c (b : Nat) (L : List Tok) (p : PS) (e wh : Int) : MCall Tryz.prog 79 [.ptr b 0, .val (.int .i64 e), .val (.int .i64 wh)] (.loc b (psC L p)) (.tup []) (.loc b (psC L (failP p e wh))) := by
 obtain ⟨a, lv, e0, wh0⟩ := p
 have hf : failP ⟨a, lv, e0, wh0⟩ e wh = if e0 = 0 then ⟨a, lv, e, wh⟩ else ⟨a, lv, e0, wh0⟩ := rfl
 rw [hf]
 simp only [psC]
 refine Zv Tryz.func79 J (by kernel_rfl) J (Uk J) ?_
 refine Ye (Zg (Zc (Za 6 J J J (Zd J J (Za 7 J J J (Yl J J (Za 8 J J J (Zh J Vs J (Za 9 J J J (Zp (i := 0) J Yz J J J ?_))))))))))
 refine Za 10 J J J (Yk J J J ?_); intro c10 h10
 refine Vx (Zb ?_)
 rcases Zi h10 with ⟨rfl, g10⟩ | ⟨rfl, g10⟩
 ·refine Zq J (Zw (go_end ?_))
  exact out_none J (Ud (by simp [g10] <;> rfl)) ⟨J, J⟩
 ·refine Zu J (Zg (Zc (Za 11 J J J (Zd J J (Za 12 J J J (Zd J J (Za 13 J J J (Yl J J (Za 14 J J J (Zh J Vs J (Zt J J (Zr (i := 0) J Ws J J J J J (Uk J) J ?_))))))))))))
  refine Vx (Zb (Zc (Za 15 J J J (Zd J J (Za 16 J J J (Zd J J (Za 17 J J J (Yl J J (Za 18 J J J (Zh J tf_95_4 J (Zt J J (Zr (i := 0) J Ws J J J J J (Uk J) J ?_))))))))))))
  refine Vx (go_end ?_)
  exact out_none J (Ud (by simp [g10] <;> rfl)) ⟨J, J⟩
set_option maxHeartbeats 4000000 in
set_option maxRecDepth 100000 in
theorem take_c (b : Nat) (L : List Tok) (hL : L.length ≤ 100000) (p : PS) (hp : p.at_ ≤ L.length) (kind : Int) (s : ByteArray) : MCall Tryz.prog 55 [.ptr b 0, .val (.int .i64 kind), .val (.string s)] (.loc b (psC L p)) (.agg (takeP L p kind s).1.av) (.loc b (psC L (takeP L p kind s).2)) := by
 have HN := next_c b L p
 have HF := fail_c b L p 110 (nxt L p).a
 obtain ⟨t, ht⟩ : ∃ t, nxt L p = t := ⟨_, rfl⟩
 obtain ⟨r, hr⟩ : ∃ r, takeP L p kind s = r := ⟨_, rfl⟩
 have hr0 := hr
 unfold takeP at hr
 rw [ht] at HN HF hr
 rw [hr0]
 obtain ⟨a, lv, e0, wh0⟩ := p
 obtain ⟨tk, tt, tn, ta⟩ := t
 have hp : a ≤ L.length := hp
 simp only [psC, Tok.av] at HN HF hr ⊢
 refine Zv Tryz.func55 J (by kernel_rfl) J (Uk J) ?_
 refine Ye (Zg (Zc (Za 6 J J J (Zy (cs' := [_, _, _, _]) J Wq J J ?_)))); intro b6
 refine Vx (Zb (Zg (Zc (Za 8 J J J (Zd J J (Za 9 J J J (Ww (xs := [.tmp 8]) [1] J J J (HN) by1 ?_)))))))
 refine Za 7 J J J (Zy (cs' := [_, _, _, _]) J Wq J J ?_); intro b7
 refine Zt J J (Zr (cs' := [_, _, _, _]) (i := 0) J Xk J J J J J (Uk J) J (Vx (Zb (Zg (Zg (Zc (Za 10 J J J (Zd J J (Za 11 J J J (Yl J J (Za 12 J J J (Zh J Vs J (Za 13 J J J (Zp (i := 2) J Yz J J J ?_))))))))))))))
 refine Za 14 J J J (Xp J J J ?_); intro c14 h14
 refine Vx (Zb ?_)
 rcases Zi h14 with ⟨rfl, g14⟩ | ⟨rfl, g14⟩
 ·refine Zq J (Zw (Zb (Zg (Zg (Xm 38 ((kind < 6 ∧ tk ≠ kind) ∨ (6 ≤ kind ∧ (tk < 6 ∨ tt ≠ s))) ?_ _ _ J ?_)))))
  ·skip
   refine Za 16 J J J (Zd J J (Za 17 J J J (Ys J J J ?_))); intro c17 h17
   refine Za 18 J J J (Zd J J ?_)
   rcases Zi h17 with ⟨rfl, g17⟩ | ⟨rfl, g17⟩
   ·skip
    refine Zl 19 J J J J J (Zl 20 J J J J J (Zl 21 J J J J J (Zl 22 J J J J J (Za 23 J J J (Zm J J J (Za 24 J J J (Zd J J ?_)))))))
    refine Zo 25 J J J J J (Zd J J (Zo 26 J J J J J (Xx J J J ?_))); intro c26 h26
    refine Zo 27 J J J J J (Zd J J ?_)
    rcases Zi h26 with ⟨rfl, g26⟩ | ⟨rfl, g26⟩
    ·skip
     refine Zl 28 J J J J J (Zl 29 J J J J J (Zl 30 J J J J J (Zl 31 J J J J J (Yr 32 J J J J J (Yr 33 J J J J J ?_)))))
     refine Yr 34 J J J J J (Yr 35 J J J J J (Zl 36 J J J J J (Zo 37 J J J J J (Zm J J J (Za 38 J J J (Zm J J J (Vx ?_)))))))
     refine Ui J ?_ by5 by3
     clear HN HF hr; first | (simp_all; done) | grind
    ·skip
     refine Zo 28 J J J J J (Zh J Xg J (Zo 29 J J J J J (Zp (i := 0) J Yz J J J (Zo 30 J J J J J (Ys J J J ?_))))); intro c30 h30
     refine Zo 31 J J J J J (Zd J J ?_)
     rcases Zi h30 with ⟨rfl, g30⟩ | ⟨rfl, g30⟩
     ·skip
      refine Zo 32 J J J J J (Zh J Xi J (Zo 33 J J J J J (Zp (i := 0) J Xb J J J (Zo 34 J J J J J (Zd J J (Zo 35 J J J J J (op_sneq J J J ?_))))))); intro c35 h35
      refine Zo 36 J J J J J (Zm J J J (Zo 37 J J J J J (Zm J J J (Za 38 J J J (Zm J J J (Vx (Ui J ?_ by5 by3)))))))
      clear HN HF hr; first | (simp_all; done) | grind
     ·skip
      refine Zl 32 J J J J J (Zl 33 J J J J J (Zl 34 J J J J J (Zl 35 J J J J J (Zo 36 J J J J J (Zm J J J (Zo 37 J J J J J (Zm J J J ?_)))))))
      refine Za 38 J J J (Zm J J J (Vx (Ui J ?_ by5 by3)))
      clear HN HF hr; first | (simp_all; done) | grind
   ·skip
    refine Zo 19 J J J J J (Zh J Xg J (Zo 20 J J J J J (Zp (i := 0) J Yz J J J (Zo 21 J J J J J (Zd J J (Zo 22 J J J J J (Xp J J J ?_))))))); intro c22 h22
    refine Za 23 J J J (Zm J J J (Za 24 J J J (Zd J J ?_)))
    rcases Zi h22 with ⟨rfl, g22⟩ | ⟨rfl, g22⟩
    ·skip
     refine Zo 25 J J J J J (Zd J J (Zo 26 J J J J J (Xx J J J ?_))); intro c26 h26
     refine Zo 27 J J J J J (Zd J J ?_)
     rcases Zi h26 with ⟨rfl, g26⟩ | ⟨rfl, g26⟩
     ·skip
      refine Zl 28 J J J J J (Zl 29 J J J J J (Zl 30 J J J J J (Zl 31 J J J J J (Yr 32 J J J J J (Yr 33 J J J J J ?_)))))
      refine Yr 34 J J J J J (Yr 35 J J J J J (Zl 36 J J J J J (Zo 37 J J J J J (Zm J J J (Za 38 J J J (Zm J J J (Vx ?_)))))))
      refine Ui J ?_ by5 by3
      clear HN HF hr; first | (simp_all; done) | grind
     ·skip
      refine Zo 28 J J J J J (Zh J Xg J (Zo 29 J J J J J (Zp (i := 0) J Yz J J J (Zo 30 J J J J J (Ys J J J ?_))))); intro c30 h30
      refine Zo 31 J J J J J (Zd J J ?_)
      rcases Zi h30 with ⟨rfl, g30⟩ | ⟨rfl, g30⟩
      ·skip
       refine Zo 32 J J J J J (Zh J Xi J (Zo 33 J J J J J (Zp (i := 0) J Xb J J J (Zo 34 J J J J J (Zd J J (Zo 35 J J J J J (op_sneq J J J ?_))))))); intro c35 h35
       refine Zo 36 J J J J J (Zm J J J (Zo 37 J J J J J (Zm J J J (Za 38 J J J (Zm J J J (Vx (Ui J ?_ by5 by3)))))))
       clear HN HF hr; first | (simp_all; done) | grind
      ·skip
       refine Zl 32 J J J J J (Zl 33 J J J J J (Zl 34 J J J J J (Zl 35 J J J J J (Zo 36 J J J J J (Zm J J J (Zo 37 J J J J J (Zm J J J ?_)))))))
       refine Za 38 J J J (Zm J J J (Vx (Ui J ?_ by5 by3)))
       clear HN HF hr; first | (simp_all; done) | grind
    ·skip
     refine Zl 25 J J J J J (Zl 26 J J J J J (Zl 27 J J J J J (Yr 28 J J J J J (Yr 29 J J J J J (Yr 30 J J J J J ?_)))))
     refine Yr 31 J J J J J (Yr 32 J J J J J (Yr 33 J J J J J (Yr 34 J J J J J (Yr 35 J J J J J (Yr 36 J J J J J ?_)))))
     refine Zl 37 J J J J J (Za 38 J J J (Zm J J J (Vx (Ui J ?_ by5 by3))))
     clear HN HF hr; first | (simp_all; done) | grind
  intro c38 h38
  refine Zb ?_
  rcases Zi h38 with ⟨rfl, g38⟩ | ⟨rfl, g38⟩
  ·refine Zq J (Zw (Zb (Zg (Zc (Za 44 J J J (Zd J J (Za 45 J J J (Yl J J (Za 46 J J J (Zh J tf_95_1 J (Za 47 J J J (Zp (i := 2) J Yz J J J (Za 48 J J J (Yx J J J (Uo _ (by omega)) ?_))))))))))))))
   refine Za 49 J J J (Yl J J (Za 50 J J J (Zh J tf_95_1 J (Zt J J (Zr (i := 2) J Ws J J J J J (Uk J) J (Vx (Zb (Zg (Zc (Za 51 J J J (Zx (cs' := [_, _, _, _]) (i := 0) J Yt J J J J (Zt J J (Zr (cs' := [_, _, _, _]) (i := 1) J Xk J J J J J (Uk J) J ?_)))))))))))))
   refine Vx (Zb (Ya ?_))
   rw [if_neg g14, if_neg g38] at hr; subst hr; exact Ym (i := 1) rfl rfl rfl Yt rfl (Ue _) (Ub _ (Ub _ (Ud rfl))) ⟨rfl, rfl⟩
  ·refine Zu J (Zg (Zc (Za 39 J J J (Zd J J (Za 40 J J J (Zh J Wz J (Za 41 J J J (Zp (i := 0) J Yz J J J (Za 42 J J J (Yi (xs := [.tmp 39, .const (.int .i64 110), .tmp 41]) (i := 2) J J J (HF) by1 ?_))))))))))
   refine Vx (Zb (Zg (Zc (Za 43 J J J (Yo (ns := []) (xs := []) J Wq J tfl_97 J J J J (Zt J J (Zr (cs' := [_, _, _, _]) (i := 1) J Xk J J J J J (Uk J) J (Vx (Zb (Ya ?_))))))))))
   rw [if_neg g14, if_pos g38] at hr; subst hr; exact Ym (i := 1) rfl rfl rfl Yt rfl (Ue _) by3 ⟨rfl, rfl⟩
 ·refine Zu J (Zg (Zc (Za 15 J J J (Zx (cs' := [_, _, _, _]) (i := 0) J Yt J J J J (Zt J J (Zr (cs' := [_, _, _, _]) (i := 1) J Xk J J J J J (Uk J) J (Vx (Zb (Ya ?_)))))))))
  rw [if_pos g14] at hr; subst hr; exact Ym (i := 1) rfl rfl rfl Yt rfl (Ue _) by3 ⟨rfl, rfl⟩
set_option maxHeartbeats 4000000 in
set_option maxRecDepth 100000 in
theorem may_c (b : Nat) (L : List Tok) (hL : L.length ≤ 100000) (p : PS) (s : ByteArray) : MayCall Tryz.prog 51 [.ptr b 0, .val (.string s)] (.loc b (psC L p)) (isP L p s = true) (.loc b (psC L (stepP p))) := by
 have HI := is_p b L p s
 have hl := is_lt (L := L) (p := p) (s := s)
 obtain ⟨a, lv, e0, wh0⟩ := p
 simp only [psC] at HI hl ⊢
 refine Zv Tryz.func51 J (by kernel_rfl) J (Uk J) ?_
 refine Ye (Zg (Zc (Za 4 J J J (Zf J J (Vx (Zb (Zg (Zg (Zc (Za 5 J J J (Zd J J (Za 6 J J J (Zd J J ?_)))))))))))))
 refine Za 7 J J J (op_callkb (xs := [.tmp 5, .tmp 6]) [0] J J J (HI) by1 ?_); intro c7 h7
 refine Za 8 J J J (Wf J J ?_); intro c8 h8
 try replace h8 := nott h8 h7
 refine Vx (Zb ?_)
 rcases Zi h8 with ⟨rfl, g8⟩ | ⟨rfl, g8⟩
 ·refine Zq J (Zw (Zb (Zg ?_)))
  have := hl (Classical.not_not.1 g8)
  refine Zc (Za 9 J J J (Zd J J (Za 10 J J J (Yl J J (Za 11 J J J (Zh J tf_95_1 J (Za 12 J J J (Zp (i := 0) J Yz J J J (Za 13 J J J (Yx J J J (Uo _ (by omega)) ?_))))))))))
  refine Za 14 J J J (Yl J J (Za 15 J J J (Zh J tf_95_1 J (Zt J J (Zr (i := 0) J Ws J J J J J (Uk J) J (Vx (Zb (Zg (Zc (Za 4 J J J (Zf J J (Vx (Zb ?_)))))))))))))
  exact Ya (Yf J J (Ue _) (Ud J) (.inl ⟨Classical.not_not.1 g8, J, J⟩))
 ·exact Zu J (Zg (Zc (Za 4 J J J (Zf J J (Vx (Zb (Ya (Yf J J (Ue _) (Vy _) (.inr ⟨g8, J, J⟩)))))))))
set_option maxHeartbeats 4000000 in
set_option maxRecDepth 100000 in
theorem deeper_c (b : Nat) (L : List Tok) (p : PS) (h1 : 0 ≤ p.lv) (h2 : p.lv ≤ 1000) : MCall Tryz.prog 104 [.ptr b 0] (.loc b (psC L p)) (.tup []) (.loc b (psC L (deeperP L p))) := by
 have HN := next_c b L { p with lv := p.lv + 1 }
 have HF := fail_c b L { p with lv := p.lv + 1 } 111 (nxt L { p with lv := p.lv + 1 }).a
 obtain ⟨t, ht⟩ : ∃ t, nxt L { p with lv := p.lv + 1 } = t := ⟨_, rfl⟩
 obtain ⟨r, hr⟩ : ∃ r, deeperP L p = r := ⟨_, rfl⟩
 have hr0 := hr
 unfold deeperP at hr
 rw [ht] at HN HF hr
 rw [hr0]
 obtain ⟨a, lv, e0, wh0⟩ := p
 obtain ⟨tk, tt, tn, ta⟩ := t
 simp only [psC, Tok.av] at HN HF hr h1 h2 ⊢
 refine Zv Tryz.func104 J (by kernel_rfl) J (Uk J) ?_
 refine Ye (Zg (Zc (Za 2 J J J (Zd J J (Za 3 J J J (Yl J J (Za 4 J J J (Zh J tf_95_2 J (Za 5 J J J (Zp (i := 0) J Yz J J J ?_))))))))))
 refine Za 6 J J J (Yx J J J (Uo _ (by omega)) ?_)
 refine Za 7 J J J (Yl J J (Za 8 J J J (Zh J tf_95_2 J (Zt J J (Zr (i := 0) J Ws J J J J J (Uk J) J (Vx (Zb (Zg (Zc (Za 9 J J J (Zd J J (Za 10 J J J (Yl J J ?_)))))))))))))
 refine Za 11 J J J (Zh J tf_95_2 J (Za 12 J J J (Zp (i := 0) J Yz J J J (Za 13 J J J (Vg J J J ?_))))); intro c13 h13
 refine Vx (Zb ?_)
 rcases Zi h13 with ⟨rfl, g13⟩ | ⟨rfl, g13⟩
 ·refine Zq J (Zw (go_end ?_))
  rw [if_neg (by omega)] at hr; subst hr; exact out_none rfl (Ud rfl) ⟨rfl, rfl⟩
 ·refine Zu J (Zc (Za 14 J J J (Zd J J (Za 15 J J J (Zd J J (Za 16 J J J (Ww (xs := [.tmp 15]) [0] J J J (HN) by1 ?_)))))))
  refine Za 17 J J J (Vd (ft := 3) (fo := 3) J (by kernel_rfl) Yz J J ?_)
  refine Za 18 J J J (Yi (xs := [.tmp 14, .const (.int .i64 111), .tmp 17]) (i := 0) J J J (HF) by1 ?_)
  refine Vx (go_end ?_)
  rw [if_pos (by omega)] at hr; subst hr; exact out_none rfl (Ud rfl) ⟨rfl, rfl⟩
set_option maxHeartbeats 4000000 in
set_option maxRecDepth 100000 in
theorem pName_c (b : Nat) (L : List Tok) (hL : L.length ≤ 100000) (n : Nat) (p : PS) (k : POk L n p) : MCall Tryz.prog 84 [.ptr b 0] (.loc b (psC L p)) (.agg (nameP L p).1.av) (.loc b (psC L (nameP L p).2)) := by
 refine Zv Tryz.func84 J (by kernel_rfl) J (Uk J) ?_
 refine Ye (Zg (Zc (Za 2 J J J (Zy (cs' := [_, _, _, _]) J Wq J J ?_)))); intro b2
 refine Vx (Zb (Zg (Zg (Zc (Za 4 J J J (Zd J J (Za 5 J J J (op_mayc (xs := [.tmp 4, .const (.string ⟨#[40]⟩)]) (i := 1) J J J (may_c b L hL p kLP) by1 ?_ ?_))))))))
 ·intro g5
  refine Vx (Zb (Zu J (Zg ?_)))
  have a1 := Xr k g5
  have k1 := a1.ok k
  have a2 := Yp (kind := 5) (s := kE) (by decide) k1
  have k2 := a2.ok k1
  refine Zc (Za 6 J J J (Zd J J (Za 7 J J J (Yi (xs := [.tmp 6, .const (.int .i64 5), .const (.string ⟨#[]⟩)]) (i := 1) J J J (take_c b L hL _ k1.1 5 kE) by1 ?_))))
  refine Za 3 J J J (Zy (cs' := [_, _, _, _]) J Wq J J ?_); intro b3
  refine Zt J J (Zr (cs' := [_, _, _, _]) (i := 0) J Xk J J J J J (Uk J) J (Vx (Zb (Zg (Zc (Za 8 J J J (Zd J J (Za 9 J J J (Yi (xs := [.tmp 8, .const (.int .i64 7), .const (.string ⟨#[41]⟩)]) (i := 2) J J J (take_c b L hL _ k2.1 7 kRP) by1 ?_)))))))))
  refine Vx (Zb (Zg (Zc (Za 10 J J J (Zx (cs' := [_, _, _, _]) (i := 0) J Yt J J J J (Zt J J (Zr (cs' := [_, _, _, _]) (i := 1) J Xk J J J J J (Uk J) J (Vx (Zb (Ya ?_))))))))))
  rw [nameP, if_pos g5]; exact Ym (i := 1) rfl rfl rfl Yt rfl (Ue _) (Ub _ (Ub _ (Ud rfl))) ⟨rfl, rfl⟩
 ·intro g5
  refine Vx (Zb (Zq J (Zw (Zb (Zg (Zc (Za 11 J J J (Zd J J (Za 12 J J J (Yi (xs := [.tmp 11, .const (.int .i64 1), .const (.string ⟨#[]⟩)]) (i := 1) J J J (take_c b L hL _ k.1 1 kE) by1 ?_))))))))))
  refine Zt J J (Zr (cs' := [_, _, _, _]) (i := 0) J Xk J J J J J (Uk J) J (Vx (Zb (Ya ?_))))
  rw [nameP, if_neg g5]; exact Ym (i := 0) rfl rfl rfl Yt rfl (Ue _) (Ub _ (Ud rfl)) ⟨rfl, rfl⟩
theorem uppersL_go {L : List Tok} {f : Nat} {p : PS} {acc : List ByteArray} (h : isP L p kComma = true) : uppersL L (f + 1) p acc = uppersL L f (takeP L (stepP p) 2 kE).2 (acc ++ [(takeP L (stepP p) 2 kE).1.t]) := by rw [uppersL, if_pos h]
theorem uppersL_end {L : List Tok} {f : Nat} {p : PS} {acc : List ByteArray} (h : ¬ isP L p kComma = true) : uppersL L f p acc = (acc, p) := by
 cases f with
 | zero => rfl
 | succ f => rw [uppersL, if_neg h]
set_option maxHeartbeats 4000000 in
set_option maxRecDepth 100000 in
theorem uppers_c (b : Nat) (L : List Tok) (hL : L.length ≤ 100000) (n : Nat) (p : PS) (k : POk L n p) : MCall Tryz.prog 83 [.ptr b 0] (.loc b (psC L p)) (.seq 1 (strs (uppersP L p).1)) (.loc b (psC L (uppersP L p).2)) := by
 have a1 := Yp (L := L) (kind := 2) (s := kE) (by decide) k
 have k1 := a1.ok k
 have hE : uppersP L p = uppersL L (L.length + 1) (takeP L p 2 kE).2 [(takeP L p 2 kE).1.t] := rfl
 refine Zv Tryz.func83 J (by kernel_rfl) J (Uk J) ?_
 refine Ye (Zg (Zc (Za 2 J J J (Zf J J (Vx (Zb (Zg (Zc (Za 4 J J J (Zd J J (Za 5 J J J (Yi (xs := [.tmp 4, .const (.int .i64 2), .const (.string ⟨#[]⟩)]) (i := 0) J J J (take_c b L hL _ k.1 2 kE) by1 ?_))))))))))))
 refine Za 6 J J J (Vd (ft := 9) (fo := 1) J (by kernel_rfl) Xb J J ?_)
 refine Za 7 J J J (op_buildSlice_own (xs := [.tmp 6]) Vv J J J J J J (Uk J) ?_); intro u7
 refine Za 3 J J J (Zf J J (Vx (Zb (Zg (Zz ?_)))))
 apply Wm [1, 3, 4, 5, 6, 7, 8, 9, 10, 11, 12, 13, 14, 15] (σ := PS × Nat × List ByteArray × Value) (fun zz => match zz with | (q, f, acc, u) => [(3, .own u 1 (strs acc))]) (fun zz => match zz with | (q, f, acc, u) => [.own 9 1 u, .loc b (psC L q)]) (fun zz => match zz with | (q, f, acc, u) => POk L n q ∧ L.length - q.at_ < f ∧ acc.length ≤ q.at_ + 1 ∧ uppersP L p = uppersL L f q acc) (fun zz => match zz with | (q, f, acc, u) => f) (((takeP L p 2 kE).2, L.length + 1, [(takeP L p 2 kE).1.t], u7))
 ·repeat' (first | exact Un | apply Ul rfl | apply Um rfl)
 ·exact ⟨k1, by omega, by simp, hE⟩
 ·exact by4
 ·exact by3
 rintro ⟨q, f, acc, u⟩ hI
 try dsimp only [List.cons_append, List.nil_append] at hI ⊢
 obtain ⟨h1, h2, h3, hu⟩ := hI
 have hq1 := h1.1
 have hle : (strs acc).length ≤ 200000 := by rw [Xw]; omega
 refine Zg (Zg (Zc (Za 8 J J J (Zd J J (Za 9 J J J (op_mayc (xs := [.tmp 8, .const (.string ⟨#[44]⟩)]) (i := 1) J J J (may_c b L hL q kComma) by1 ?_ ?_))))))
 ·intro g9
  refine Vx (Zb (Zu J (Zw (Zb (Zz ?_)))))
  obtain ⟨f, rfl⟩ : ∃ f', f = f' + 1 := ⟨f - 1, by omega⟩
  rw [uppersL_go g9] at hu
  have b1 := Xr h1 g9
  have l1 := b1.ok h1
  have b2 := Yp (kind := 2) (s := kE) (by decide) l1
  have l2 := b2.ok l1
  have b3 : (stepP q).at_ ≤ _ := b2.1
  have b4 : (stepP q).at_ = q.at_ + 1 := rfl
  have b5 := (is_lt g9).2
  have HT := take_c b L hL _ l1.1 2 kE
  obtain ⟨⟨t2, q2⟩, e2⟩ : ∃ r, takeP L (stepP q) 2 kE = r := ⟨_, rfl⟩
  rw [e2] at HT hu l2 b3
  simp only [Tok.av] at HT hu l2 b3
  refine Zc (Za 10 J J J (Zd J J (Za 11 J J J (Zd J J (Za 12 J J J (Yi (xs := [.tmp 11, .const (.int .i64 2), .const (.string ⟨#[]⟩)]) (i := 1) J J J (HT) by1 ?_))))))
  refine Za 13 J J J (Vd (ft := 9) (fo := 1) J (by kernel_rfl) Xb J J ?_)
  refine Za 14 J J J (Yh (xs := [.tmp 13]) Vv J J J J J J (Uk J) (Za 15 J J J (Xj (i := 0) Vv J J J J (.seq _ _) by6 ?_)))
  intro u15
  refine Za 3 J J J (Zf J J (Vx (Yw (Xc ?_))))
  refine ⟨(q2, f, acc ++ [t2.t], u15), ⟨l2, (by show L.length - q2.at_ < f; omega), (by show (acc ++ [t2.t]).length ≤ q2.at_ + 1; rw [List.length_append]; simp; omega), hu⟩, Nat.lt_succ_self f, Uh J (Uj (by simp [strs, AV.cells])) by4, by3⟩
 ·intro g9
  refine Vx (Zb (Zq J (Xd (Xf (Xz (Xe (Zb (Zg (Zc (Za 16 J J J (Zd J J (Za 2 J J J (Zf J J ?_)))))))))))))
  refine Vx (Zb (Ya ?_))
  rw [uppersL_end g9] at hu; rw [hu]; exact Yf rfl rfl (Le.own_seq rfl) (Ub _ (Vy _)) ⟨rfl, rfl⟩
set_option maxHeartbeats 4000000 in
set_option maxRecDepth 100000 in
theorem starts_c (b : Nat) (L : List Tok) (p : PS) (what : Int) : KBCall Tryz.prog 81 [.ptr b 0, .val (.int .i64 what)] [.loc b (psC L p)] (startsP L what p) := by
 have HN := next_c b L p
 have H1 := is_p b L p kLP
 have H2 := is_p b L p kUn
 have H3 := is_p b L p kCase
 unfold startsP
 generalize isP L p kLP = x1 at *
 generalize isP L p kUn = x2 at *
 generalize isP L p kCase = x3 at *
 obtain ⟨⟨tk, tt, tn, ta⟩, ht⟩ : ∃ t, nxt L p = t := ⟨_, rfl⟩
 rw [ht] at HN ⊢
 simp only [Tok.av] at HN ⊢
 refine Zv Tryz.func81 J (by kernel_rfl) J (Uk J) ?_
 refine Ye (Zg (Zc (Za 4 J J J (Zf J J (Vx (Zb (Zg (Zc (Za 6 J J J (Zd J J (Za 7 J J J (Ww (xs := [.tmp 6]) [0] J J J (HN) by1 ?_))))))))))))
 refine Za 8 J J J (Vd (ft := 3) (fo := 0) J (by kernel_rfl) Yz J J ?_)
 refine Za 5 J J J (Zf J J (Vx (Zb (Zg (Zg (Xm 18 (tk = 1 ∨ tk = 2 ∨ x1 = true) ?_ _ _ J ?_))))))
 ·skip
  refine Za 9 J J J (Zd J J (Za 10 J J J (Yk J J J ?_))); intro c10 h10
  refine Za 11 J J J (Zd J J ?_)
  rcases Zi h10 with ⟨rfl, g10⟩ | ⟨rfl, g10⟩
  ·skip
   refine Zo 12 J J J J J (Zd J J (Zo 13 J J J J J (Yk J J J ?_))); intro c13 h13
   refine Za 14 J J J (Zm J J J (Za 15 J J J (Zd J J ?_)))
   rcases Zi h13 with ⟨rfl, g13⟩ | ⟨rfl, g13⟩
   ·skip
    refine Zo 16 J J J J J (Zd J J (Zo 17 J J J J J (op_callkb (xs := [.tmp 16, .const (.string ⟨#[40]⟩)]) [0] J J J (H1) by1 ?_))); intro c17 h17
    refine Za 18 J J J (Zm J J J (Vx (Ui J ?_ by5 by3)))
    clear HN H1 H2 H3; first | (simp_all; done) | grind
   ·skip
    refine Zl 16 J J J J J (Zl 17 J J J J J (Za 18 J J J (Zm J J J (Vx (Ui J ?_ by5 by3)))))
    clear HN H1 H2 H3; first | (simp_all; done) | grind
  ·skip
   refine Zl 12 J J J J J (Zl 13 J J J J J (Za 14 J J J (Zm J J J (Za 15 J J J (Zd J J (Zl 16 J J J J J (Zl 17 J J J J J ?_)))))))
   refine Za 18 J J J (Zm J J J (Vx (Ui J ?_ by5 by3)))
   clear HN H1 H2 H3; first | (simp_all; done) | grind
 intro c18 h18
 refine Zb ?_
 rcases Zi h18 with ⟨rfl, g18⟩ | ⟨rfl, g18⟩
 ·refine Zq J (Zw (Zb (Zg (Xm 4 ((1 ≤ what ∧ tk = 3) ∨ (what = 1 ∧ x2 = true) ∨ (what = 2 ∧ (tk = 4 ∨ x3 = true))) ?_ _ _ J ?_))))
  ·skip
   refine Za 19 J J J (Zd J J (Za 20 J J J (Xx J J J ?_))); intro c20 h20
   refine Za 21 J J J (Zd J J ?_)
   rcases Zi h20 with ⟨rfl, g20⟩ | ⟨rfl, g20⟩
   ·skip
    refine Zl 22 J J J J J (Zl 23 J J J J J (Za 24 J J J (Zm J J J (Za 25 J J J (Zd J J (Zo 26 J J J J J (Zd J J (Zo 27 J J J J J (Yk J J J ?_))))))))); intro c27 h27
    refine Zo 28 J J J J J (Zd J J ?_)
    rcases Zi h27 with ⟨rfl, g27⟩ | ⟨rfl, g27⟩
    ·skip
     refine Zl 29 J J J J J (Zl 30 J J J J J (Zo 31 J J J J J (Zm J J J (Za 32 J J J (Zm J J J (Za 33 J J J (Zd J J (Zo 34 J J J J J (Zd J J ?_)))))))))
     refine Zo 35 J J J J J (Yk J J J ?_); intro c35 h35
     refine Zo 36 J J J J J (Zd J J ?_)
     rcases Zi h35 with ⟨rfl, g35⟩ | ⟨rfl, g35⟩
     ·skip
      refine Zl 37 J J J J J (Zl 38 J J J J J (Zl 39 J J J J J (Yr 40 J J J J J (Yr 41 J J J J J (Zl 42 J J J J J ?_)))))
      refine Zo 43 J J J J J (Zm J J J (Za 44 J J J (Zm J J J (Za 4 J J J (Zf J J (Vx (Ui J ?_ by5 by3)))))))
      clear HN H1 H2 H3; first | (simp_all; done) | grind
     ·skip
      refine Zo 37 J J J J J (Zd J J (Zo 38 J J J J J (Yk J J J ?_))); intro c38 h38
      refine Zo 39 J J J J J (Zd J J ?_)
      rcases Zi h38 with ⟨rfl, g38⟩ | ⟨rfl, g38⟩
      ·skip
       refine Zo 40 J J J J J (Zd J J (Zo 41 J J J J J (op_callkb (xs := [.tmp 40, .const (.string ⟨#[99, 97, 115, 101]⟩)]) [0] J J J (H3) by1 ?_))); intro c41 h41
       refine Zo 42 J J J J J (Zm J J J (Zo 43 J J J J J (Zm J J J (Za 44 J J J (Zm J J J (Za 4 J J J (Zf J J (Vx (Ui J ?_ by5 by3)))))))))
       clear HN H1 H2 H3; first | (simp_all; done) | grind
      ·skip
       refine Zl 40 J J J J J (Zl 41 J J J J J (Zo 42 J J J J J (Zm J J J (Zo 43 J J J J J (Zm J J J (Za 44 J J J (Zm J J J (Za 4 J J J (Zf J J ?_)))))))))
       refine Vx (Ui J ?_ by5 by3)
       clear HN H1 H2 H3; first | (simp_all; done) | grind
    ·skip
     refine Zo 29 J J J J J (Zd J J (Zo 30 J J J J J (op_callkb (xs := [.tmp 29, .const (.string ⟨#[95]⟩)]) [0] J J J (H2) by1 ?_))); intro c30 h30
     refine Zo 31 J J J J J (Zm J J J (Za 32 J J J (Zm J J J (Za 33 J J J (Zd J J ?_)))))
     rcases Zi h30 with ⟨rfl, g30⟩ | ⟨rfl, g30⟩
     ·skip
      refine Zo 34 J J J J J (Zd J J (Zo 35 J J J J J (Yk J J J ?_))); intro c35 h35
      refine Zo 36 J J J J J (Zd J J ?_)
      rcases Zi h35 with ⟨rfl, g35⟩ | ⟨rfl, g35⟩
      ·skip
       refine Zl 37 J J J J J (Zl 38 J J J J J (Zl 39 J J J J J (Yr 40 J J J J J (Yr 41 J J J J J (Zl 42 J J J J J ?_)))))
       refine Zo 43 J J J J J (Zm J J J (Za 44 J J J (Zm J J J (Za 4 J J J (Zf J J (Vx (Ui J ?_ by5 by3)))))))
       clear HN H1 H2 H3; first | (simp_all; done) | grind
      ·skip
       refine Zo 37 J J J J J (Zd J J (Zo 38 J J J J J (Yk J J J ?_))); intro c38 h38
       refine Zo 39 J J J J J (Zd J J ?_)
       rcases Zi h38 with ⟨rfl, g38⟩ | ⟨rfl, g38⟩
       ·skip
        refine Zo 40 J J J J J (Zd J J (Zo 41 J J J J J (op_callkb (xs := [.tmp 40, .const (.string ⟨#[99, 97, 115, 101]⟩)]) [0] J J J (H3) by1 ?_))); intro c41 h41
        refine Zo 42 J J J J J (Zm J J J (Zo 43 J J J J J (Zm J J J (Za 44 J J J (Zm J J J (Za 4 J J J (Zf J J (Vx (Ui J ?_ by5 by3)))))))))
        clear HN H1 H2 H3; first | (simp_all; done) | grind
       ·skip
        refine Zl 40 J J J J J (Zl 41 J J J J J (Zo 42 J J J J J (Zm J J J (Zo 43 J J J J J (Zm J J J (Za 44 J J J (Zm J J J (Za 4 J J J (Zf J J ?_)))))))))
        refine Vx (Ui J ?_ by5 by3)
        clear HN H1 H2 H3; first | (simp_all; done) | grind
     ·skip
      refine Zl 34 J J J J J (Zl 35 J J J J J (Zl 36 J J J J J (Yr 37 J J J J J (Yr 38 J J J J J (Yr 39 J J J J J ?_)))))
      refine Yr 40 J J J J J (Yr 41 J J J J J (Yr 42 J J J J J (Zl 43 J J J J J (Za 44 J J J (Zm J J J (Za 4 J J J (Zf J J ?_)))))))
      refine Vx (Ui J ?_ by5 by3)
      clear HN H1 H2 H3; first | (simp_all; done) | grind
   ·skip
    refine Zo 22 J J J J J (Zd J J (Zo 23 J J J J J (Yk J J J ?_))); intro c23 h23
    refine Za 24 J J J (Zm J J J (Za 25 J J J (Zd J J ?_)))
    rcases Zi h23 with ⟨rfl, g23⟩ | ⟨rfl, g23⟩
    ·skip
     refine Zo 26 J J J J J (Zd J J (Zo 27 J J J J J (Yk J J J ?_))); intro c27 h27
     refine Zo 28 J J J J J (Zd J J ?_)
     rcases Zi h27 with ⟨rfl, g27⟩ | ⟨rfl, g27⟩
     ·skip
      refine Zl 29 J J J J J (Zl 30 J J J J J (Zo 31 J J J J J (Zm J J J (Za 32 J J J (Zm J J J (Za 33 J J J (Zd J J (Zo 34 J J J J J (Zd J J ?_)))))))))
      refine Zo 35 J J J J J (Yk J J J ?_); intro c35 h35
      refine Zo 36 J J J J J (Zd J J ?_)
      rcases Zi h35 with ⟨rfl, g35⟩ | ⟨rfl, g35⟩
      ·skip
       refine Zl 37 J J J J J (Zl 38 J J J J J (Zl 39 J J J J J (Yr 40 J J J J J (Yr 41 J J J J J (Zl 42 J J J J J ?_)))))
       refine Zo 43 J J J J J (Zm J J J (Za 44 J J J (Zm J J J (Za 4 J J J (Zf J J (Vx (Ui J ?_ by5 by3)))))))
       clear HN H1 H2 H3; first | (simp_all; done) | grind
      ·skip
       refine Zo 37 J J J J J (Zd J J (Zo 38 J J J J J (Yk J J J ?_))); intro c38 h38
       refine Zo 39 J J J J J (Zd J J ?_)
       rcases Zi h38 with ⟨rfl, g38⟩ | ⟨rfl, g38⟩
       ·skip
        refine Zo 40 J J J J J (Zd J J (Zo 41 J J J J J (op_callkb (xs := [.tmp 40, .const (.string ⟨#[99, 97, 115, 101]⟩)]) [0] J J J (H3) by1 ?_))); intro c41 h41
        refine Zo 42 J J J J J (Zm J J J (Zo 43 J J J J J (Zm J J J (Za 44 J J J (Zm J J J (Za 4 J J J (Zf J J (Vx (Ui J ?_ by5 by3)))))))))
        clear HN H1 H2 H3; first | (simp_all; done) | grind
       ·skip
        refine Zl 40 J J J J J (Zl 41 J J J J J (Zo 42 J J J J J (Zm J J J (Zo 43 J J J J J (Zm J J J (Za 44 J J J (Zm J J J (Za 4 J J J (Zf J J ?_)))))))))
        refine Vx (Ui J ?_ by5 by3)
        clear HN H1 H2 H3; first | (simp_all; done) | grind
     ·skip
      refine Zo 29 J J J J J (Zd J J (Zo 30 J J J J J (op_callkb (xs := [.tmp 29, .const (.string ⟨#[95]⟩)]) [0] J J J (H2) by1 ?_))); intro c30 h30
      refine Zo 31 J J J J J (Zm J J J (Za 32 J J J (Zm J J J (Za 33 J J J (Zd J J ?_)))))
      rcases Zi h30 with ⟨rfl, g30⟩ | ⟨rfl, g30⟩
      ·skip
       refine Zo 34 J J J J J (Zd J J (Zo 35 J J J J J (Yk J J J ?_))); intro c35 h35
       refine Zo 36 J J J J J (Zd J J ?_)
       rcases Zi h35 with ⟨rfl, g35⟩ | ⟨rfl, g35⟩
       ·skip
        refine Zl 37 J J J J J (Zl 38 J J J J J (Zl 39 J J J J J (Yr 40 J J J J J (Yr 41 J J J J J (Zl 42 J J J J J ?_)))))
        refine Zo 43 J J J J J (Zm J J J (Za 44 J J J (Zm J J J (Za 4 J J J (Zf J J (Vx (Ui J ?_ by5 by3)))))))
        clear HN H1 H2 H3; first | (simp_all; done) | grind
       ·skip
        refine Zo 37 J J J J J (Zd J J (Zo 38 J J J J J (Yk J J J ?_))); intro c38 h38
        refine Zo 39 J J J J J (Zd J J ?_)
        rcases Zi h38 with ⟨rfl, g38⟩ | ⟨rfl, g38⟩
        ·skip
         refine Zo 40 J J J J J (Zd J J (Zo 41 J J J J J (op_callkb (xs := [.tmp 40, .const (.string ⟨#[99, 97, 115, 101]⟩)]) [0] J J J (H3) by1 ?_))); intro c41 h41
         refine Zo 42 J J J J J (Zm J J J (Zo 43 J J J J J (Zm J J J (Za 44 J J J (Zm J J J (Za 4 J J J (Zf J J (Vx (Ui J ?_ by5 by3)))))))))
         clear HN H1 H2 H3; first | (simp_all; done) | grind
        ·skip
         refine Zl 40 J J J J J (Zl 41 J J J J J (Zo 42 J J J J J (Zm J J J (Zo 43 J J J J J (Zm J J J (Za 44 J J J (Zm J J J (Za 4 J J J (Zf J J ?_)))))))))
         refine Vx (Ui J ?_ by5 by3)
         clear HN H1 H2 H3; first | (simp_all; done) | grind
      ·skip
       refine Zl 34 J J J J J (Zl 35 J J J J J (Zl 36 J J J J J (Yr 37 J J J J J (Yr 38 J J J J J (Yr 39 J J J J J ?_)))))
       refine Yr 40 J J J J J (Yr 41 J J J J J (Yr 42 J J J J J (Zl 43 J J J J J (Za 44 J J J (Zm J J J (Za 4 J J J (Zf J J ?_)))))))
       refine Vx (Ui J ?_ by5 by3)
       clear HN H1 H2 H3; first | (simp_all; done) | grind
    ·skip
     refine Zl 26 J J J J J (Zl 27 J J J J J (Zl 28 J J J J J (Yr 29 J J J J J (Yr 30 J J J J J (Zl 31 J J J J J ?_)))))
     refine Za 32 J J J (Zm J J J (Za 33 J J J (Zd J J (Zl 34 J J J J J (Zl 35 J J J J J (Zl 36 J J J J J (Yr 37 J J J J J ?_)))))))
     refine Yr 38 J J J J J (Yr 39 J J J J J (Yr 40 J J J J J (Yr 41 J J J J J (Yr 42 J J J J J (Zl 43 J J J J J ?_)))))
     refine Za 44 J J J (Zm J J J (Za 4 J J J (Zf J J (Vx (Ui J ?_ by5 by3)))))
     clear HN H1 H2 H3; first | (simp_all; done) | grind
  intro c4 h4
  refine Zb (Ya ?_)
  exact Yf J J (Ue _) (Vy _) ⟨⟨_, by clear HN H1 H2 H3; grind, J⟩, J⟩
 ·refine Zu J (Zg (Zc (Za 4 J J J (Zf J J (Vx (Zb (Ya ?_)))))))
  exact Yf J J (Ue _) (Vy _) ⟨⟨_, by clear HN H1 H2 H3; grind, J⟩, J⟩
theorem typesL_go {L : List Tok} {T : PS → Ty × PS} {f : Nat} {p : PS} {acc : List Ty} (h : startsP L 0 p) : typesL L T (f + 1) p acc = typesL L T f (atypeG L T p).2 (acc ++ [(atypeG L T p).1]) := by rw [typesL, if_pos h]
theorem typesL_end {L : List Tok} {T : PS → Ty × PS} {f : Nat} {p : PS} {acc : List Ty} (h : ¬ startsP L 0 p) : typesL L T f p acc = (acc, p) := by
 cases f with
 | zero => rfl
 | succ f => rw [typesL, if_neg h]
abbrev zTyp : List AV := [.val (.int .i64 0), .val (.string kE), .val (.int .i64 0), .val (.slice none 0 0)]
def TyC (b : Nat) (L : List Tok) (n : Nat) (T : PS → Ty × PS) : Prop := ∀ q, POk L n q → MCall Tryz.prog 85 [.ptr b 0] (.loc b (psC L q)) (.agg (T q).1.cells) (.loc b (psC L (T q).2))
set_option maxHeartbeats 4000000 in
set_option maxRecDepth 100000 in
theorem atype_c (b : Nat) (L : List Tok) (hL : L.length ≤ 100000) (n : Nat) (T : PS → Ty × PS) (HT : TyC b L n T) (HA : ∀ q, POk L n q → Adv L q (T q).2) (p : PS) (k : POk L n p) : MCall Tryz.prog 82 [.ptr b 0] (.loc b (psC L p)) (.agg (atypeG L T p).1.cells) (.loc b (psC L (atypeG L T p).2)) := by
 have HN := next_c b L p
 have hp := k.1
 have a1 := Yp (L := L) (kind := 7) (s := kLP) (by decide) k
 have k1 := a1.ok k
 obtain ⟨t, ht⟩ : ∃ t, nxt L p = t := ⟨_, rfl⟩
 obtain ⟨r, hr⟩ : ∃ r, atypeG L T p = r := ⟨_, rfl⟩
 have hr0 := hr
 unfold atypeG at hr
 rw [ht] at HN hr
 rw [hr0]
 obtain ⟨tk, tt, tn, ta⟩ := t
 simp only [Tok.av] at HN hr
 refine Zv Tryz.func82 J (by kernel_rfl) J (Uk J) ?_
 refine Ye (Zg (Zc (Za 2 J J J (Zy (cs' := [_, _, _, _]) J tz_25 J J ?_)))); intro b2
 refine Vx (Zb (Zg (Zc (Za 5 J J J (Zd J J (Za 6 J J J (Ww (xs := [.tmp 5]) [1] J J J (HN) by1 ?_)))))))
 refine Za 3 J J J (Zy (cs' := [_, _, _, _]) J Wq J J ?_); intro b3
 refine Zt J J (Zr (cs' := [_, _, _, _]) (i := 0) J Xk J J J J J (Uk J) J (Vx (Zb (Zg (Zg (Zc (Za 7 J J J (Zh J Xg J (Za 8 J J J (Zp (i := 0) J Yz J J J (Za 9 J J J (Yk J J J ?_)))))))))))); intro c9 h9
 refine Vx (Zb ?_)
 rcases Zi h9 with ⟨rfl, g9⟩ | ⟨rfl, g9⟩
 ·refine Zq J (Zw (Zb (Zg (Zg (Zc (Za 20 J J J (Zh J Xg J (Za 21 J J J (Zp (i := 0) J Yz J J J (Za 22 J J J (Yk J J J ?_))))))))))); intro c22 h22
  refine Vx (Zb ?_)
  rcases Zi h22 with ⟨rfl, g22⟩ | ⟨rfl, g22⟩
  ·refine Zq J (Zw (Zb (Zg (Zc (Za 33 J J J (Zd J J (Za 34 J J J (Yi (xs := [.tmp 33, .const (.int .i64 7), .const (.string ⟨#[40]⟩)]) (i := 2) J J J (take_c b L hL p k.1 7 kLP) by1 ?_))))))))
   refine Vx (Zb (Zg (Zg (Zc (Za 35 J J J (Zd J J (Za 36 J J J (op_mayc (xs := [.tmp 35, .const (.string ⟨#[41]⟩)]) (i := 2) J J J (may_c b L hL (takeP L p 7 kLP).2 kRP) by1 ?_ ?_))))))))
   ·intro g36
    refine Vx (Zb (Zu J (Zg (Zc (Za 37 J J J (Yo (ns := [0, 1]) (xs := [.const (.int .i64 3), .const (.string ⟨#[85, 110, 105, 116]⟩)]) J tz_25 J tfl_25 J J J J ?_))))))
    refine Zt J J (Zr (cs' := [_, _, _, _]) (i := 1) J ts_25 J J J J J (Uk J) J (Vx (Zb (Ya ?_))))
    rw [if_neg g9, if_neg g22, if_pos g36] at hr; subst hr; exact Ym (i := 1) rfl rfl rfl Xt rfl by2 (Ub _ (Ub _ (Ud rfl))) ⟨rfl, rfl⟩
   ·intro g36
    refine Vx (Zb (Zq J (Zw (Zb (Zg ?_)))))
    have HT1 := HT _ k1
    have k2 := (HA _ k1).ok k1
    rw [if_neg g9, if_neg g22, if_neg g36] at hr
    obtain ⟨⟨⟨xk, xs, xn, xl⟩, p3⟩, hx⟩ : ∃ r, T (takeP L p 7 kLP).2 = r := ⟨_, rfl⟩
    rw [hx] at HT1 hr k2
    simp only [Ty.cells] at HT1
    refine Zc (Za 38 J J J (Zd J J (Za 39 J J J (Yi (xs := [.tmp 38]) (i := 2) J J J (HT1) by1 ?_))))
    refine Za 4 J J J (Zy (cs' := [_, _, _, _]) J tz_25 J J ?_); intro b4
    refine Zt J J (Zr (cs' := [_, _, _, _]) (i := 0) J ts_25 J J J J J (Uk J) J (Vx (Zb (Zg (Zc (Za 40 J J J (Zd J J (Za 41 J J J (Yi (xs := [.tmp 40, .const (.int .i64 7), .const (.string ⟨#[41]⟩)]) (i := 3) J J J (take_c b L hL _ k2.1 7 kRP) by1 ?_)))))))))
    refine Vx (Zb (Zg (Zc (Za 42 J J J (Zx (cs' := [_, _, _, _]) (i := 0) J Xt J J J J (Zt J J (Zr (cs' := [_, _, _, _]) (i := 2) J ts_25 J J J J J (Uk J) J (Vx (Zb (Ya ?_))))))))))
    subst hr; exact Ym (i := 2) rfl rfl rfl Xt rfl (Ue _) (Ub _ (Ub _ (Ub _ (Ud rfl)))) ⟨rfl, rfl⟩
  ·refine Zu J (Zg (Zc (Za 23 J J J (Zd J J (Za 24 J J J (Yl J J (Za 25 J J J (Zh J tf_95_1 J (Za 26 J J J (Zp (i := 2) J Yz J J J (Za 27 J J J (Yx J J J (Uo _ (by omega)) ?_))))))))))))
   refine Za 28 J J J (Yl J J (Za 29 J J J (Zh J tf_95_1 J (Zt J J (Zr (i := 2) J Ws J J J J J (Uk J) J (Vx (Zb (Zg (Zc (Za 30 J J J (Zh J Xi J (Za 31 J J J (Zp (i := 0) J Xb J J J ?_)))))))))))))
   refine Za 32 J J J (Yo (ns := [0, 1]) (xs := [.const (.int .i64 1), .tmp 31]) J tz_25 J tfl_25 J J J J (Zt J J (Zr (cs' := [_, _, _, _]) (i := 1) J ts_25 J J J J J (Uk J) J (Vx (Zb (Ya ?_))))))
   rw [if_neg g9, if_pos g22] at hr; subst hr; exact Ym (i := 1) rfl rfl rfl Xt rfl by2 (Ub _ (Ub _ (Ud rfl))) ⟨rfl, rfl⟩
 ·refine Zu J (Zg (Zc (Za 10 J J J (Zd J J (Za 11 J J J (Yl J J (Za 12 J J J (Zh J tf_95_1 J (Za 13 J J J (Zp (i := 2) J Yz J J J (Za 14 J J J (Yx J J J (Uo _ (by omega)) ?_))))))))))))
  refine Za 15 J J J (Yl J J (Za 16 J J J (Zh J tf_95_1 J (Zt J J (Zr (i := 2) J Ws J J J J J (Uk J) J (Vx (Zb (Zg (Zc (Za 17 J J J (Zh J Xi J (Za 18 J J J (Zp (i := 0) J Xb J J J ?_)))))))))))))
  refine Za 19 J J J (Yo (ns := [0, 1]) (xs := [.const (.int .i64 3), .tmp 18]) J tz_25 J tfl_25 J J J J (Zt J J (Zr (cs' := [_, _, _, _]) (i := 1) J ts_25 J J J J J (Uk J) J (Vx (Zb (Ya ?_))))))
  rw [if_pos g9] at hr; subst hr; exact Ym (i := 1) rfl rfl rfl Xt rfl by2 (Ub _ (Ub _ (Ud rfl))) ⟨rfl, rfl⟩
set_option maxHeartbeats 4000000 in
set_option maxRecDepth 100000 in
theorem Type_err (b : Nat) (L : List Tok) (p : PS) (he : p.e ≠ 0) : MCall Tryz.prog 85 [.ptr b 0] (.loc b (psC L p)) (.agg ty0.cells) (.loc b (psC L p)) := by
 refine Zv Tryz.func85 J (by kernel_rfl) J (Uk J) ?_
 refine Ye (Zg (Zc (Za 2 J J J (Zy (cs' := [_, _, _, _]) J tz_25 J J ?_)))); intro b2
 refine Vx (Zb (Zg (Zg (Zc (Za 5 J J J (Zd J J (Za 6 J J J (Yl J J (Za 7 J J J (Zh J Vs J (Za 8 J J J (Zp (i := 1) J Yz J J J (Za 9 J J J (Xp J J J ?_)))))))))))))); intro c9 h9
 refine Vx (Zb ?_)
 rcases Zi h9 with ⟨rfl, g9⟩ | ⟨rfl, g9⟩
 ·exact absurd he g9
 ·exact Zu J (Zg (Zc (Za 10 J J J (Yo (ns := []) (xs := []) J tz_25 J tfl_25 J J J J (Zt J J (Zr (cs' := [_, _, _, _]) (i := 0) J ts_25 J J J J J (Uk J) J (Vx (Zb (Ya (Ym (i := 0) J J J Xt J by2 (Ub _ (Vy _)) ⟨J, J⟩))))))))))
set_option maxHeartbeats 4000000 in
set_option maxRecDepth 100000 in
theorem Type_ok (b : Nat) (L : List Tok) (hL : L.length ≤ 100000) (n : Nat) (T : PS → Ty × PS) (HT : TyC b L n T) (HA : ∀ q, POk L n q → Adv L q (T q).2) (p : PS) (k : POk L (n + 1) p) (he : p.e = 0) : MCall Tryz.prog 85 [.ptr b 0] (.loc b (psC L p)) (.agg (typeR L T (typeH L T (deeperP L p))).1.cells) (.loc b (psC L (typeR L T (typeH L T (deeperP L p))).2)) := by
 have kq := deeper_ok k he
 have HN := next_c b L (deeperP L p)
 have hq0 := kq.1
 have aH := typeH_adv HA kq
 have kH := aH.ok kq
 obtain ⟨t, ht⟩ : ∃ t, nxt L (deeperP L p) = t := ⟨_, rfl⟩
 have hkt : (nxt L (deeperP L p)).k = 2 → (deeperP L p).at_ < L.length := fun e => (Vw (by omega)).2
 have HAT := atype_c b L hL n T HT HA (deeperP L p) kq
 obtain ⟨⟨⟨xk, xs, xn, xl⟩, q1⟩, hx⟩ : ∃ r, typeH L T (deeperP L p) = r := ⟨_, rfl⟩
 have hx0 := hx
 unfold typeH at hx
 rw [hx0] at kH ⊢
 simp only [] at kH
 obtain ⟨r, hr⟩ : ∃ r, typeR L T (Ty.mk xk xs xn xl, q1) = r := ⟨_, rfl⟩
 rw [hr]
 unfold typeR at hr
 simp only [] at hr
 rw [ht] at HN hx hkt
 obtain ⟨tk, tt, tn, ta⟩ := t
 simp only [Tok.av] at HN hx hkt
 refine Zv Tryz.func85 J (by kernel_rfl) J (Uk J) ?_
 refine Ye (Zg (Zc (Za 2 J J J (Zy (cs' := [_, _, _, _]) J tz_25 J J ?_)))); intro b2
 refine Vx (Zb (Zg (Zg (Zc (Za 5 J J J (Zd J J (Za 6 J J J (Yl J J (Za 7 J J J (Zh J Vs J (Za 8 J J J (Zp (i := 1) J Yz J J J (Za 9 J J J (Xp J J J ?_)))))))))))))); intro c9 h9
 refine Vx (Zb ?_)
 rcases Zi h9 with ⟨rfl, g9⟩ | ⟨rfl, g9⟩
 ·refine Zq J (Zw (Zb (Zg (Zc (Za 11 J J J (Zd J J ?_))))))
  refine Za 12 J J J (Yi (xs := [.tmp 11]) (i := 1) J J J (deeper_c b L p k.2.1 (by have := k.2.2.1; omega)) by1 ?_)
  refine Vx (Zb (Zg (Zc (Za 13 J J J (Zd J J (Za 14 J J J (Ww (xs := [.tmp 13]) [1] J J J (HN) by1 ?_)))))))
  refine Za 3 J J J (Zy (cs' := [_, _, _, _]) J Wq J J ?_); intro b3
  refine Zt J J (Zr (cs' := [_, _, _, _]) (i := 0) J Xk J J J J J (Uk J) J (Vx (Zb (Zg (Zc (Za 15 J J J (Yo (ns := []) (xs := []) J tz_25 J tfl_25 J J J J (Za 4 J J J (Zy (cs' := [_, _, _, _]) J tz_25 J J ?_))))))))); intro b4
  refine Zt J J (Zr (cs' := [_, _, _, _]) (i := 0) J ts_25 J J J J J (Uk J) J (Vx (Zb (Zg (Zg (Zc (Za 16 J J J (Zh J Xg J (Za 17 J J J (Zp (i := 1) J Yz J J J (Za 18 J J J (Yk J J J ?_)))))))))))); intro c18 h18
  refine Vx (Zb ?_)
  apply c_joink [1, 3, 5, 6, 7, 8, 9, 10, 11, 12, 13, 14, 15, 16, 17, 18, 19, 20, 21, 22, 23, 24, 25, 26, 27, 28, 29, 30, 31, 32, 33, 34, 35, 36, 37, 38, 39] (σ := Unit) (fun zz => match zz with | z => []) (fun zz => match zz with | z => [.loc b4 (Ty.mk xk xs xn xl).cells, .loc b3 (Tok.mk tk tt tn ta).av, .loc b2 zTyp, .loc b (psC L q1)]) (fun zz => match zz with | z => True)
  ·repeat' (first | exact Un | apply Ul rfl | apply Um rfl)
  ·skip
   rcases Zi h18 with ⟨rfl, g18⟩ | ⟨rfl, g18⟩
   ·refine Zq J ?_
    rw [if_neg g18] at hx
    rw [hx] at HAT
    simp only [Ty.cells] at HAT
    refine Zc (Za 38 J J J (Zd J J (Za 39 J J J (Yi (xs := [.tmp 38]) (i := 3) J J J (HAT) by1 ?_))))
    refine Zt J J (Zr (cs' := [_, _, _, _]) (i := 0) J ts_25 J J J J J (Uk J) J (Vx (Xc ?_)))
    first | exact ⟨(), trivial, by4, Ud rfl⟩ | (rw [typesL_end g30] at hu; cases hu; exact ⟨(), trivial, by4, Uc _ (Ug (Ue _) (Ug (Ue _) (Ug (Ue _) (Ug (Le.own _ _ _) (Uf _))))) (Ua _ (Ua _ (Ua _ (Vz _))))⟩)
   ·refine Zu J (Zg ?_)
    rw [if_pos g18] at hx
    have hlt := hkt g18
    have ks := Vn kq hlt
    refine Zc (Za 19 J J J (Zd J J (Za 20 J J J (Yl J J (Za 21 J J J (Zh J tf_95_1 J (Za 22 J J J (Zp (i := 3) J Yz J J J (Za 23 J J J (Yx J J J (Uo _ (by omega)) ?_))))))))))
    refine Za 24 J J J (Yl J J (Za 25 J J J (Zh J tf_95_1 J (Zt J J (Zr (i := 3) J Ws J J J J J (Uk J) J (Vx (Zb (Zg (Zc (Za 26 J J J (Zh J Xi J (Za 27 J J J (Zp (i := 1) J Xb J J J ?_)))))))))))))
    refine Za 28 J J J (Yo (ns := [0, 1]) (xs := [.const (.int .i64 3), .tmp 27]) J tz_25 J tfl_25 J J J J (Zt J J (Zr (cs' := [_, _, _, _]) (i := 0) J ts_25 J J J J J (Uk J) J (Vx (Zb (Zz (Wg 25 4 ?_)))))))
    apply Wm [1, 3, 5, 6, 7, 8, 9, 10, 11, 12, 13, 14, 15, 16, 17, 18, 19, 20, 21, 22, 23, 24, 26, 27, 28, 29, 30, 31, 32, 33, 34, 35, 36, 37, 38, 39] (σ := PS × Nat × List Ty × Value) (fun zz => match zz with | (q, f, acc, u) => []) (fun zz => match zz with | (q, f, acc, u) => [.loc b4 [.val (.int .i64 3), .val (.string tt), .val (.int .i64 0), .own u 4 (Ty.cellss acc)], .loc b3 (Tok.mk tk tt tn ta).av, .loc b2 zTyp, .loc b (psC L q), .own 25 4 u]) (fun zz => match zz with | (q, f, acc, u) => POk L n q ∧ L.length - q.at_ < f ∧ acc.length ≤ q.at_ ∧ (Ty.mk 3 tt 0 (typesL L T f q acc).1, (typesL L T f q acc).2) = ((Ty.mk xk xs xn xl), q1)) (fun zz => match zz with | (q, f, acc, u) => f) ((stepP (deeperP L p), L.length + 1, [], .slice none 0 0))
    ·repeat' (first | exact Un | apply Ul rfl | apply Um rfl)
    ·exact ⟨ks.ok kq, by omega, Nat.zero_le _, hx⟩
    ·exact by4
    ·exact (Uc _ (Ug (Ue _) (Ug (Ue _) (Ug (Ue _) (Ug (Le.nilOwn 4) (Uf _))))) (Ua _ (Ua _ (Ud J))))
    rintro ⟨q, f, acc, u⟩ hI
    try dsimp only [List.cons_append, List.nil_append] at hI ⊢
    obtain ⟨h1, h2, h3, hu⟩ := hI
    have hq1 := h1.1
    have hle : (Ty.cellss acc).length ≤ 200000 := by rw [Ty.cellss_len]; omega
    refine Zg (Zg (Zc (Za 29 J J J (Zd J J (Za 30 J J J (op_callkb (xs := [.tmp 29, .const (.int .i64 0)]) [3] J J J (starts_c b L q 0) by1 ?_)))))); intro c30 h30
    refine Vx (Zb ?_)
    rcases Zi h30 with ⟨rfl, g30⟩ | ⟨rfl, g30⟩
    ·refine Zq J (Xd (Xf (Xz (Xe (Xc ?_)))))
     first | exact ⟨(), trivial, by4, Ud rfl⟩ | (rw [typesL_end g30] at hu; cases hu; exact ⟨(), trivial, by4, Uc _ (Ug (Ue _) (Ug (Ue _) (Ug (Ue _) (Ug (Le.own _ _ _) (Uf _))))) (Ua _ (Ua _ (Ua _ (Vz _))))⟩)
    ·refine Zu J (Zw (Zb (Zz ?_)))
     obtain ⟨f, rfl⟩ : ∃ f', f = f' + 1 := ⟨f - 1, by omega⟩
     rw [typesL_go g30] at hu
     have b1 := atype_lt HA h1 g30
     have b2 := atype_adv HA h1
     have l2 := b2.ok h1
     have HA2 := atype_c b L hL n T HT HA q h1
     obtain ⟨⟨⟨yk, ys, yn, yl⟩, q2⟩, e2⟩ : ∃ r, atypeG L T q = r := ⟨_, rfl⟩
     rw [e2] at HA2 hu l2 b1
     simp only [Ty.cells] at HA2
     simp only [] at b1 l2
     have l3 := l2.1
     refine Wc [0, 1, 2, 3, 4, 5, 6, 7] [3, 5, 7] [[], [0], [], [2], [2, 3], [0, 1, 2, 3, 4], [0, 1, 2, 3, 4, 5], [0, 1, 2, 3, 4, 5, 6]] Wi J (Yc 31 (none) (i := 0) J J J J J (Zh J Xq J ⟨J, J⟩) ?_)
     refine Yc 32 (some 0) (i := 1) J J J J J (Zp (i := 0) J Wr J J J ⟨J, J⟩) ?_
     refine Yc 33 (none) (i := 2) J J J J J (Zd J J ⟨J, J⟩) ?_
     refine Xo 3 (i := 3) J J J J J (Yi (xs := [.tmp 33]) (i := 0) J J J (HA2) by1 ⟨_, J, ?_⟩)
     refine Yc 35 (none) (i := 4) J J J J J (Yh (xs := [.tmp 34]) el_23 J J J J J J (Uk J) ⟨J, J⟩) ?_
     refine Xo 4 (i := 5) J J J J J (Xj (i := 0) el_23 J J J J (.seq _ _) by6 (fun u36 => ⟨_, J, ?_⟩))
     refine Yc 37 (none) (i := 6) J J J J J (Zh J Xq J ⟨J, J⟩) ?_
     refine Xo 0 (i := 7) J J J J J (Zr (cs' := [_, _, _, _]) (i := 0) J ts_23 J J J J J (Uk J) J ⟨_, J, ?_⟩)
     show AGo _ _ _ _ _ _ _
     refine Yw (Xc ?_)
     refine ⟨(q2, f, acc ++ [Ty.mk yk ys yn yl], u36), ⟨l2, (by show L.length - q2.at_ < f; omega), (by show (acc ++ [Ty.mk yk ys yn yl]).length ≤ q2.at_; rw [List.length_append]; simp; omega), hu⟩, Nat.lt_succ_self f, by4, (Uc _ (Ug (Ue _) (Ug (Ue _) (Ug (Ue _) (Ug (Uj (by rw [Ty.cellss_app]; rfl)) (Uf _))))) (Ua _ (Ua _ (Ud J))))⟩
  rintro z hI
  try dsimp only [List.cons_append, List.nil_append] at hI ⊢
  refine Zb (Zg (Zg (Zc (Za 40 J J J (Zd J J (Za 41 J J J (op_mayc (xs := [.tmp 40, .const (.string ⟨#[45, 62]⟩)]) (i := 3) J J J (may_c b L hL q1 kArrow) by1 ?_ ?_)))))))
  ·intro g41
   refine Vx (Zb (Zu J ?_))
   have ka := Xr kH g41
   have kz := ka.ok kH
   have HT1 := HT _ kz
   have kw := (HA _ kz).ok kz
   obtain ⟨⟨⟨zk, zs, zn, zl⟩, q3⟩, e3⟩ : ∃ r, T (stepP q1) = r := ⟨_, rfl⟩
   rw [if_pos g41, e3] at hr
   rw [e3] at HT1 kw
   simp only [Ty.cells] at HT1
   simp only [] at kw
   have hb3 := kw.2.1
   have hb4 := kw.2.2.1
   refine Wc [0, 1, 2, 3, 4, 5] [2, 5] [[], [], [1], [0, 1, 2], [0, 1, 2, 3], [0, 1, 2, 3, 4]] Wi J (Yc 42 (some 0) (i := 0) J J J J J (Zx (cs' := [_, _, _, _]) (i := 0) J Xt J J J J ⟨J, J⟩) ?_)
   refine Yc 43 (none) (i := 1) J J J J J (Zd J J ⟨J, J⟩) ?_
   refine Xo 3 (i := 2) J J J J J (Yi (xs := [.tmp 43]) (i := 0) J J J (HT1) by1 ⟨_, J, ?_⟩)
   refine Yc 45 (none) (i := 3) J J J J J (Yh (xs := [.tmp 42, .tmp 44]) el_23 J J J J J J (Uk J) ⟨J, J⟩) ?_
   refine Yc 46 (none) (i := 4) J J J J J (Yo (ns := [0, 1, 3]) (xs := [.const (.int .i64 3), .const (.string ⟨#[45, 62]⟩), .tmp 45]) J tz_25 J tfl_25 J J J J ⟨J, J⟩) ?_
   refine Xo 0 (i := 5) J J J J J (Zr (cs' := [_, _, _, _]) (i := 0) J ts_25 J J J J J (Uk J) J ⟨_, J, ?_⟩)
   show AGo _ _ _ _ _ _ _
   refine Zb (Zg ?_)
   have hb1 := kH.2.1
   have hb2 := kH.2.2.1
   refine Zc (Za 47 J J J (Zd J J (Za 48 J J J (Yl J J (Za 49 J J J (Zh J tf_95_2 J (Za 50 J J J (Zp (i := 3) J Yz J J J (Za 51 J J J (op_sub J J J (Uo _ (by omega)) ?_))))))))))
   refine Za 52 J J J (Yl J J (Za 53 J J J (Zh J tf_95_2 J (Zt J J (Zr (i := 3) J Ws J J J J J (Uk J) J (Vx (Zb (Zg (Zc (Za 54 J J J (Zx (cs' := [_, _, _, _]) (i := 0) J Xt J J J J (Zt J J (Zr (cs' := [_, _, _, _]) (i := 2) J ts_25 J J J J J (Uk J) J ?_)))))))))))))
   refine Vx (Zb (Ya ?_))
   subst hr; exact Ym (i := 2) rfl rfl rfl Xt rfl (Ue _) (Ub _ (Ub _ (Ub _ (Ud rfl)))) ⟨rfl, rfl⟩
  ·intro g41
   refine Vx (Zb (Zq J (Zw (Zb (Zg ?_)))))
   have hb1 := kH.2.1
   have hb2 := kH.2.2.1
   refine Zc (Za 47 J J J (Zd J J (Za 48 J J J (Yl J J (Za 49 J J J (Zh J tf_95_2 J (Za 50 J J J (Zp (i := 3) J Yz J J J (Za 51 J J J (op_sub J J J (Uo _ (by omega)) ?_))))))))))
   refine Za 52 J J J (Yl J J (Za 53 J J J (Zh J tf_95_2 J (Zt J J (Zr (i := 3) J Ws J J J J J (Uk J) J (Vx (Zb (Zg (Zc (Za 54 J J J (Zx (cs' := [_, _, _, _]) (i := 0) J Xt J J J J (Zt J J (Zr (cs' := [_, _, _, _]) (i := 2) J ts_25 J J J J J (Uk J) J ?_)))))))))))))
   refine Vx (Zb (Ya ?_))
   rw [if_neg g41] at hr; subst hr; exact Ym (i := 2) rfl rfl rfl Xt rfl (Ue _) (Ub _ (Ub _ (Ub _ (Ud rfl)))) ⟨rfl, rfl⟩
 ·exact absurd he g9
theorem Type_c (b : Nat) (L : List Tok) (hL : L.length ≤ 100000) : ∀ n, TyC b L n (typeF L n)
 | 0, p, k => Type_err b L p (fun e => by have := k.2.2.2 e; omega)
 | n + 1, p, k => by
  by_cases he : p.e = 0
  ·have h := Type_ok b L hL n (typeF L n) (Type_c b L hL n) (typeF_adv n) p k he
   rw [typeF, if_neg (by rw [he]; simp)]
   exact h
  ·rw [typeF, if_pos he]; exact Type_err b L p he
theorem typeP_c (b : Nat) (L : List Tok) (hL : L.length ≤ 100000) (n : Nat) (p : PS) (k : POk L n p) : MCall Tryz.prog 85 [.ptr b 0] (.loc b (psC L p)) (.agg (typeP L p).1.cells) (.loc b (psC L (typeP L p).2)) := Type_c b L hL 302 p (k.up (by decide))
theorem patsL_go {L : List Tok} {T : PS → Pa × PS} {f : Nat} {p : PS} {acc : List Pa} (h : startsP L 1 p) : patsL L T (f + 1) p acc = patsL L T f (apatG L T p).2 (acc ++ [(apatG L T p).1]) := by rw [patsL, if_pos h]
theorem patsL_end {L : List Tok} {T : PS → Pa × PS} {f : Nat} {p : PS} {acc : List Pa} (h : ¬ startsP L 1 p) : patsL L T f p acc = (acc, p) := by
 cases f with
 | zero => rfl
 | succ f => rw [patsL, if_neg h]
theorem Pa.cellss_app' (a b : List Pa) : Pa.cellss (a ++ b) = Pa.cellss a ++ Pa.cellss b := by simp [Pa.cellss_map]
abbrev zPa : List AV := [.val (.int .i64 0), .val (.string kE), .val (.int .i64 0), .val (.slice none 0 0), .val (.int .i64 0)]
def PaC (b : Nat) (L : List Tok) (n : Nat) (T : PS → Pa × PS) : Prop := ∀ q, POk L n q → MCall Tryz.prog 131 [.ptr b 0] (.loc b (psC L q)) (.agg (T q).1.cells) (.loc b (psC L (T q).2))
set_option maxHeartbeats 4000000 in
set_option maxRecDepth 100000 in
theorem apat_c (b : Nat) (L : List Tok) (hL : L.length ≤ 100000) (n : Nat) (T : PS → Pa × PS) (HT : PaC b L n T) (HA : ∀ q, POk L n q → Adv L q (T q).2) (p : PS) (k : POk L n p) : MCall Tryz.prog 134 [.ptr b 0] (.loc b (psC L p)) (.agg (apatG L T p).1.cells) (.loc b (psC L (apatG L T p).2)) := by
 have HN := next_c b L p
 have HI := is_p b L p kUn
 have hp := k.1
 have a1 := Yp (L := L) (kind := 7) (s := kLP) (by decide) k
 have k1 := a1.ok k
 have hkt : (nxt L p).k ≠ 0 → p.at_ < L.length := fun e => (Vw e).2
 have hki : isP L p kUn = true → p.at_ < L.length := fun e => (is_lt e).2
 obtain ⟨t, ht⟩ : ∃ t, nxt L p = t := ⟨_, rfl⟩
 obtain ⟨r, hr⟩ : ∃ r, apatG L T p = r := ⟨_, rfl⟩
 have hr0 := hr
 unfold apatG at hr
 rw [ht] at HN hr hkt
 rw [hr0]
 obtain ⟨tk, tt, tn, ta⟩ := t
 simp only [Tok.av] at HN hr hkt
 refine Zv Tryz.func134 J (by kernel_rfl) J (Uk J) ?_
 refine Ye (Zg (Zc (Za 2 J J J (Zy (cs' := [_, _, _, _, _]) J tz_184 J J ?_)))); intro b2
 refine Vx (Zb (Zg (Zc (Za 5 J J J (Zd J J (Za 6 J J J (Ww (xs := [.tmp 5]) [1] J J J (HN) by1 ?_)))))))
 refine Za 3 J J J (Zy (cs' := [_, _, _, _]) J Wq J J ?_); intro b3
 refine Zt J J (Zr (cs' := [_, _, _, _]) (i := 0) J Xk J J J J J (Uk J) J (Vx (Zb (Zg (Zc (Za 7 J J J (Zh J Wz J (Za 8 J J J (Zp (i := 0) J Yz J J J (Za 9 J J J (Yo (ns := [4]) (xs := [.tmp 8]) J tz_184 J tfl_184 J J J J (Za 4 J J J (Zy (cs' := [_, _, _, _, _]) J tz_184 J J ?_))))))))))))); intro b4
 refine Zt J J (Zr (cs' := [_, _, _, _, _]) (i := 0) J ts_184 J J J J J (Uk J) J (Vx (Zb (Zg ?_))))
 apply c_joink [1, 5, 6, 7, 8, 9, 10, 11, 12, 13, 14, 15, 16, 17, 18, 19, 20, 21, 22, 23, 24, 25, 26, 27, 28, 29, 30, 31, 32, 33, 34, 35, 36, 37, 50, 59] (σ := Int × ByteArray × Int) (fun zz => match zz with | (kk, ss, nn) => []) (fun zz => match zz with | (kk, ss, nn) => [.loc b4 [.val (.int .i64 kk), .val (.string ss), .val (.int .i64 nn), .val (.slice none 0 0), .val (.int .i64 ta)], .loc b3 (Tok.mk tk tt tn ta).av, .loc b2 zPa, .loc b (psC L p)]) (fun zz => match zz with | (kk, ss, nn) => (0 < kk ∧ (Pa.mk kk ss nn [] ta, stepP p) = r ∧ p.at_ < L.length) ∨ (kk = 0 ∧ (if isP L (takeP L p 7 kLP).2 kRP = true then (Pa.mk 3 kUnit 0 [] ta, stepP (takeP L p 7 kLP).2) else ((T (takeP L p 7 kLP).2).1, (takeP L (T (takeP L p 7 kLP).2).2 7 kRP).2)) = r))
 ·repeat' (first | exact Un | apply Ul rfl | apply Um rfl)
 ·skip
  refine Zz (Zg (Zc (Za 11 J J J (Zh J Xg J (Za 12 J J J (Zp (i := 1) J Yz J J J (Za 13 J J J (Yk J J J ?_)))))))); intro c13 h13
  refine Za 10 J J J (Zf J J (Vx (Zb ?_)))
  rcases Zi h13 with ⟨rfl, g13⟩ | ⟨rfl, g13⟩
  ·refine Zq J (Zg (Zc (Za 19 J J J (Zh J Xg J (Za 20 J J J (Zp (i := 1) J Yz J J J (Za 21 J J J (Yk J J J ?_)))))))); intro c21 h21
   refine Za 18 J J J (Zf J J (Vx (Zb ?_)))
   rcases Zi h21 with ⟨rfl, g21⟩ | ⟨rfl, g21⟩
   ·refine Zq J (Zg (Zc (Za 27 J J J (Zh J Xg J (Za 28 J J J (Zp (i := 1) J Yz J J J (Za 29 J J J (Yk J J J ?_)))))))); intro c29 h29
    refine Za 26 J J J (Zf J J (Vx (Zb ?_)))
    rcases Zi h29 with ⟨rfl, g29⟩ | ⟨rfl, g29⟩
    ·refine Zq J (Zg (Zc (Za 35 J J J (Zd J J (Za 36 J J J (op_callkb (xs := [.tmp 35, .const (.string ⟨#[95]⟩)]) [3] J J J (HI) by1 ?_)))))); intro c36 h36
     refine Za 34 J J J (Zf J J (Vx (Zb ?_)))
     rcases Zi h36 with ⟨rfl, g36⟩ | ⟨rfl, g36⟩
     ·refine Zq J (Zw (Yw (Xc ?_)))
      first
      | (rw [if_pos g13] at hr; exact ⟨(3, tt, 0), .inl ⟨by decide, hr, hkt (by omega)⟩, by4, Ud rfl⟩)
      | (rw [if_neg g13, if_pos g21] at hr; exact ⟨(2, tt, 0), .inl ⟨by decide, hr, hkt (by omega)⟩, by4, Ud rfl⟩)
      | (rw [if_neg g13, if_neg g21, if_pos g29] at hr; exact ⟨(4, kE, tn), .inl ⟨by decide, hr, hkt (by omega)⟩, by4, Ud rfl⟩)
      | (rw [if_neg g13, if_neg g21, if_neg g29, if_pos g36] at hr; exact ⟨(1, kE, 0), .inl ⟨by decide, hr, hki g36⟩, by4, Ud rfl⟩)
      | (rw [if_neg g13, if_neg g21, if_neg g29, if_neg g36] at hr; exact ⟨(0, kE, 0), .inr ⟨rfl, hr⟩, by4, Ud rfl⟩)
     ·refine Zu J (Zc (Za 37 J J J (Zh J tf_184_0 J (Zt J J (Zr (cs' := [_, _, _, _, _]) (i := 0) J Ws J J J J J (Uk J) J (Vx (Yw (Xc ?_))))))))
      first
      | (rw [if_pos g13] at hr; exact ⟨(3, tt, 0), .inl ⟨by decide, hr, hkt (by omega)⟩, by4, Ud rfl⟩)
      | (rw [if_neg g13, if_pos g21] at hr; exact ⟨(2, tt, 0), .inl ⟨by decide, hr, hkt (by omega)⟩, by4, Ud rfl⟩)
      | (rw [if_neg g13, if_neg g21, if_pos g29] at hr; exact ⟨(4, kE, tn), .inl ⟨by decide, hr, hkt (by omega)⟩, by4, Ud rfl⟩)
      | (rw [if_neg g13, if_neg g21, if_neg g29, if_pos g36] at hr; exact ⟨(1, kE, 0), .inl ⟨by decide, hr, hki g36⟩, by4, Ud rfl⟩)
      | (rw [if_neg g13, if_neg g21, if_neg g29, if_neg g36] at hr; exact ⟨(0, kE, 0), .inr ⟨rfl, hr⟩, by4, Ud rfl⟩)
    ·refine Zu J (Zg (Zc (Za 30 J J J (Zh J tf_184_0 J (Zt J J (Zr (cs' := [_, _, _, _, _]) (i := 0) J Ws J J J J J (Uk J) J (Vx (Zb (Zc (Za 31 J J J (Zh J tf_97_2 J (Za 32 J J J (Zp (i := 1) J ta_2 J J J ?_)))))))))))))
     refine Za 33 J J J (Zh J tf_184_2 J (Zt J J (Zr (cs' := [_, _, _, _, _]) (i := 0) J ts_2 J J J J J (Uk J) J (Vx (Yw (Xc ?_))))))
     first
     | (rw [if_pos g13] at hr; exact ⟨(3, tt, 0), .inl ⟨by decide, hr, hkt (by omega)⟩, by4, Ud rfl⟩)
     | (rw [if_neg g13, if_pos g21] at hr; exact ⟨(2, tt, 0), .inl ⟨by decide, hr, hkt (by omega)⟩, by4, Ud rfl⟩)
     | (rw [if_neg g13, if_neg g21, if_pos g29] at hr; exact ⟨(4, kE, tn), .inl ⟨by decide, hr, hkt (by omega)⟩, by4, Ud rfl⟩)
     | (rw [if_neg g13, if_neg g21, if_neg g29, if_pos g36] at hr; exact ⟨(1, kE, 0), .inl ⟨by decide, hr, hki g36⟩, by4, Ud rfl⟩)
     | (rw [if_neg g13, if_neg g21, if_neg g29, if_neg g36] at hr; exact ⟨(0, kE, 0), .inr ⟨rfl, hr⟩, by4, Ud rfl⟩)
   ·refine Zu J (Zg (Zc (Za 22 J J J (Zh J tf_184_0 J (Zt J J (Zr (cs' := [_, _, _, _, _]) (i := 0) J Ws J J J J J (Uk J) J (Vx (Zb (Zc (Za 23 J J J (Zh J Xi J (Za 24 J J J (Zp (i := 1) J Xb J J J ?_)))))))))))))
    refine Za 25 J J J (Zh J tf_184_1 J (Zt J J (Zr (cs' := [_, _, _, _, _]) (i := 0) J ts_9 J J J J J (Uk J) J (Vx (Yw (Xc ?_))))))
    first
    | (rw [if_pos g13] at hr; exact ⟨(3, tt, 0), .inl ⟨by decide, hr, hkt (by omega)⟩, by4, Ud rfl⟩)
    | (rw [if_neg g13, if_pos g21] at hr; exact ⟨(2, tt, 0), .inl ⟨by decide, hr, hkt (by omega)⟩, by4, Ud rfl⟩)
    | (rw [if_neg g13, if_neg g21, if_pos g29] at hr; exact ⟨(4, kE, tn), .inl ⟨by decide, hr, hkt (by omega)⟩, by4, Ud rfl⟩)
    | (rw [if_neg g13, if_neg g21, if_neg g29, if_pos g36] at hr; exact ⟨(1, kE, 0), .inl ⟨by decide, hr, hki g36⟩, by4, Ud rfl⟩)
    | (rw [if_neg g13, if_neg g21, if_neg g29, if_neg g36] at hr; exact ⟨(0, kE, 0), .inr ⟨rfl, hr⟩, by4, Ud rfl⟩)
  ·refine Zu J (Zg (Zc (Za 14 J J J (Zh J tf_184_0 J (Zt J J (Zr (cs' := [_, _, _, _, _]) (i := 0) J Ws J J J J J (Uk J) J (Vx (Zb (Zc (Za 15 J J J (Zh J Xi J (Za 16 J J J (Zp (i := 1) J Xb J J J ?_)))))))))))))
   refine Za 17 J J J (Zh J tf_184_1 J (Zt J J (Zr (cs' := [_, _, _, _, _]) (i := 0) J ts_9 J J J J J (Uk J) J (Vx (Yw (Xc ?_))))))
   first
   | (rw [if_pos g13] at hr; exact ⟨(3, tt, 0), .inl ⟨by decide, hr, hkt (by omega)⟩, by4, Ud rfl⟩)
   | (rw [if_neg g13, if_pos g21] at hr; exact ⟨(2, tt, 0), .inl ⟨by decide, hr, hkt (by omega)⟩, by4, Ud rfl⟩)
   | (rw [if_neg g13, if_neg g21, if_pos g29] at hr; exact ⟨(4, kE, tn), .inl ⟨by decide, hr, hkt (by omega)⟩, by4, Ud rfl⟩)
   | (rw [if_neg g13, if_neg g21, if_neg g29, if_pos g36] at hr; exact ⟨(1, kE, 0), .inl ⟨by decide, hr, hki g36⟩, by4, Ud rfl⟩)
   | (rw [if_neg g13, if_neg g21, if_neg g29, if_neg g36] at hr; exact ⟨(0, kE, 0), .inr ⟨rfl, hr⟩, by4, Ud rfl⟩)
 rintro ⟨kk, ss, nn⟩ hI
 try dsimp only [List.cons_append, List.nil_append] at hI ⊢
 refine Zb (Zg (Zg (Zc (Za 38 J J J (Zh J tf_184_0 J (Za 39 J J J (Zp (i := 0) J Yz J J J (Za 40 J J J (Vg J J J ?_))))))))); intro c40 h40
 refine Vx (Zb ?_)
 rcases Zi h40 with ⟨rfl, g40⟩ | ⟨rfl, g40⟩
 ·refine Zq J (Zw (Zb (Zg ?_)))
  obtain ⟨_, h2⟩ := hI.resolve_left (fun q => by omega)
  refine Zc (Za 49 J J J (Zd J J (Za 50 J J J (Yi (xs := [.tmp 49, .const (.int .i64 7), .const (.string ⟨#[40]⟩)]) (i := 3) J J J (take_c b L hL p k.1 7 kLP) by1 ?_))))
  refine Vx (Zb (Zg (Zg (Zc (Za 51 J J J (Zd J J (Za 52 J J J (op_mayc (xs := [.tmp 51, .const (.string ⟨#[41]⟩)]) (i := 3) J J J (may_c b L hL (takeP L p 7 kLP).2 kRP) by1 ?_ ?_))))))))
  ·intro g52
   refine Vx (Zb (Zu J (Zg (Zc (Za 53 J J J (Zh J Wz J (Za 54 J J J (Zp (i := 1) J Yz J J J (Za 55 J J J (Yo (ns := [0, 1, 4]) (xs := [.const (.int .i64 3), .const (.string ⟨#[85, 110, 105, 116]⟩), .tmp 54]) J tz_184 J tfl_184 J J J J ?_))))))))))
   refine Zt J J (Zr (cs' := [_, _, _, _, _]) (i := 2) J ts_184 J J J J J (Uk J) J (Vx (Zb (Ya ?_))))
   rw [if_pos g52] at h2; subst h2; exact Ym (i := 2) rfl rfl rfl ta_184 rfl by2 (Ub _ (Ub _ (Ub _ (Ud rfl)))) ⟨rfl, rfl⟩
  ·intro g52
   refine Vx (Zb (Zq J (Zw (Zb (Zg ?_)))))
   have HT1 := HT _ k1
   have k2 := (HA _ k1).ok k1
   rw [if_neg g52] at h2
   obtain ⟨⟨⟨xk, xs, xn, xl, xp⟩, p3⟩, hx⟩ : ∃ r, T (takeP L p 7 kLP).2 = r := ⟨_, rfl⟩
   rw [hx] at HT1 h2 k2
   simp only [Pa.cells] at HT1
   refine Zc (Za 56 J J J (Zd J J (Za 57 J J J (Yi (xs := [.tmp 56]) (i := 3) J J J (HT1) by1 ?_))))
   refine Zt J J (Zr (cs' := [_, _, _, _, _]) (i := 0) J ts_184 J J J J J (Uk J) J (Vx (Zb (Zg (Zc (Za 58 J J J (Zd J J (Za 59 J J J (Yi (xs := [.tmp 58, .const (.int .i64 7), .const (.string ⟨#[41]⟩)]) (i := 3) J J J (take_c b L hL _ k2.1 7 kRP) by1 ?_)))))))))
   refine Vx (Zb (Zg (Zc (Za 60 J J J (Zx (cs' := [_, _, _, _, _]) (i := 0) J ta_184 J J J J (Zt J J (Zr (cs' := [_, _, _, _, _]) (i := 2) J ts_184 J J J J J (Uk J) J (Vx (Zb (Ya ?_))))))))))
   subst h2; exact Ym (i := 2) rfl rfl rfl ta_184 rfl (Ue _) (Ub _ (Ub _ (Ub _ (Ud rfl)))) ⟨rfl, rfl⟩
 ·refine Zu J (Zg ?_)
  obtain ⟨_, h2, h3⟩ := hI.resolve_right (fun q => by omega)
  refine Zc (Za 41 J J J (Zd J J (Za 42 J J J (Yl J J (Za 43 J J J (Zh J tf_95_1 J (Za 44 J J J (Zp (i := 3) J Yz J J J (Za 45 J J J (Yx J J J (Uo _ (by omega)) ?_))))))))))
  refine Za 46 J J J (Yl J J (Za 47 J J J (Zh J tf_95_1 J (Zt J J (Zr (i := 3) J Ws J J J J J (Uk J) J (Vx (Zb (Zg (Zc (Za 48 J J J (Zx (cs' := [_, _, _, _, _]) (i := 0) J ta_184 J J J J (Zt J J (Zr (cs' := [_, _, _, _, _]) (i := 2) J ts_184 J J J J J (Uk J) J ?_)))))))))))))
  refine Vx (Zb (Ya ?_))
  subst h2; exact Ym (i := 2) rfl rfl rfl ta_184 rfl (Le.agg (Ug (Ue _) (Ug (Ue _) (Ug (Ue _) (Ug (Le.nil _) (Uf _)))))) (Ub _ (Ub _ (Ub _ (Ud rfl)))) ⟨rfl, rfl⟩
set_option maxHeartbeats 4000000 in
set_option maxRecDepth 100000 in
theorem pat_err (b : Nat) (L : List Tok) (p : PS) (he : p.e ≠ 0) : MCall Tryz.prog 131 [.ptr b 0] (.loc b (psC L p)) (.agg pa0.cells) (.loc b (psC L p)) := by
 refine Zv Tryz.func131 J (by kernel_rfl) J (Uk J) ?_
 refine Ye (Zg (Zc (Za 2 J J J (Zy (cs' := [_, _, _, _, _]) J tz_184 J J ?_)))); intro b2
 refine Vx (Zb (Zg (Zg (Zc (Za 5 J J J (Zd J J (Za 6 J J J (Yl J J (Za 7 J J J (Zh J Vs J (Za 8 J J J (Zp (i := 1) J Yz J J J (Za 9 J J J (Xp J J J ?_)))))))))))))); intro c9 h9
 refine Vx (Zb ?_)
 rcases Zi h9 with ⟨rfl, g9⟩ | ⟨rfl, g9⟩
 ·exact absurd he g9
 ·exact Zu J (Zg (Zc (Za 10 J J J (Yo (ns := []) (xs := []) J tz_184 J tfl_184 J J J J (Zt J J (Zr (cs' := [_, _, _, _, _]) (i := 0) J ts_184 J J J J J (Uk J) J (Vx (Zb (Ya (Ym (i := 0) J J J ta_184 J by2 (Ub _ (Vy _)) ⟨J, J⟩))))))))))
set_option maxHeartbeats 4000000 in
set_option maxRecDepth 100000 in
theorem apat_con (b : Nat) (L : List Tok) (hL : L.length ≤ 100000) (n : Nat) (p : PS) (k : POk L n p) (h2 : (nxt L p).k = 2) : MCall Tryz.prog 134 [.ptr b 0] (.loc b (psC L p)) (.agg [.val (.int .i64 3), .val (.string (nxt L p).t), .val (.int .i64 0), .val (.slice none 0 0), .val (.int .i64 (nxt L p).a)]) (.loc b (psC L (stepP p))) := by
 have HN := next_c b L p
 have hp := k.1
 have hlt : p.at_ < L.length := (Vw (by omega)).2
 obtain ⟨t, ht⟩ : ∃ t, nxt L p = t := ⟨_, rfl⟩
 rw [ht] at HN h2 ⊢
 obtain ⟨tk, tt, tn, ta⟩ := t
 simp only [Tok.av] at HN h2 ⊢
 refine Zv Tryz.func134 J (by kernel_rfl) J (Uk J) ?_
 refine Ye (Zg (Zc (Za 2 J J J (Zy (cs' := [_, _, _, _, _]) J tz_184 J J ?_)))); intro b2
 refine Vx (Zb (Zg (Zc (Za 5 J J J (Zd J J (Za 6 J J J (Ww (xs := [.tmp 5]) [1] J J J (HN) by1 ?_)))))))
 refine Za 3 J J J (Zy (cs' := [_, _, _, _]) J Wq J J ?_); intro b3
 refine Zt J J (Zr (cs' := [_, _, _, _]) (i := 0) J Xk J J J J J (Uk J) J (Vx (Zb (Zg (Zc (Za 7 J J J (Zh J Wz J (Za 8 J J J (Zp (i := 0) J Yz J J J (Za 9 J J J (Yo (ns := [4]) (xs := [.tmp 8]) J tz_184 J tfl_184 J J J J (Za 4 J J J (Zy (cs' := [_, _, _, _, _]) J tz_184 J J ?_))))))))))))); intro b4
 refine Zt J J (Zr (cs' := [_, _, _, _, _]) (i := 0) J ts_184 J J J J J (Uk J) J (Vx (Zb (Zg (Zz (Zg (Zc (Za 11 J J J (Zh J Xg J (Za 12 J J J (Zp (i := 1) J Yz J J J (Za 13 J J J (Yk J J J ?_))))))))))))); intro c13 h13
 refine Za 10 J J J (Zf J J (Vx (Zb ?_)))
 rcases Zi h13 with ⟨rfl, g13⟩ | ⟨rfl, g13⟩
 ·exact absurd h2 g13
 ·refine Zu J (Zg (Zc (Za 14 J J J (Zh J tf_184_0 J (Zt J J (Zr (cs' := [_, _, _, _, _]) (i := 0) J Ws J J J J J (Uk J) J (Vx (Zb (Zc (Za 15 J J J (Zh J Xi J (Za 16 J J J (Zp (i := 1) J Xb J J J ?_)))))))))))))
  refine Za 17 J J J (Zh J tf_184_1 J (Zt J J (Zr (cs' := [_, _, _, _, _]) (i := 0) J ts_9 J J J J J (Uk J) J (Vx (Yw (Zb (Zg (Zg (Zc (Za 38 J J J (Zh J tf_184_0 J ?_)))))))))))
  refine Za 39 J J J (Zp (i := 0) J Yz J J J (Za 40 J J J (Vg J J J ?_))); intro c40 h40
  refine Vx (Zb ?_)
  rcases Zi h40 with ⟨rfl, g40⟩ | ⟨rfl, g40⟩
  ·exact absurd g40 (by decide)
  ·refine Zu J (Zg (Zc (Za 41 J J J (Zd J J (Za 42 J J J (Yl J J (Za 43 J J J (Zh J tf_95_1 J (Za 44 J J J (Zp (i := 3) J Yz J J J (Za 45 J J J (Yx J J J (Uo _ (by omega)) ?_))))))))))))
   refine Za 46 J J J (Yl J J (Za 47 J J J (Zh J tf_95_1 J (Zt J J (Zr (i := 3) J Ws J J J J J (Uk J) J (Vx (Zb (Zg (Zc (Za 48 J J J (Zx (cs' := [_, _, _, _, _]) (i := 0) J ta_184 J J J J (Zt J J (Zr (cs' := [_, _, _, _, _]) (i := 2) J ts_184 J J J J J (Uk J) J ?_)))))))))))))
   exact Vx (Zb (Ya (Ym (i := 2) J J J ta_184 J (Ue _) (Ub _ (Ub _ (Ub _ (Ud J)))) ⟨J, J⟩)))
set_option maxHeartbeats 4000000 in
set_option maxRecDepth 100000 in
theorem pat_non (b : Nat) (L : List Tok) (hL : L.length ≤ 100000) (n : Nat) (T : PS → Pa × PS) (HT : PaC b L n T) (HA : ∀ q, POk L n q → Adv L q (T q).2) (p : PS) (k : POk L (n + 1) p) (he : p.e = 0) (hk : ¬ (nxt L (deeperP L p)).k = 2) :
    MCall Tryz.prog 131 [.ptr b 0] (.loc b (psC L p)) (.agg (apatG L T (deeperP L p)).1.cells) (.loc b (psC L (decP (apatG L T (deeperP L p)).2))) := by
 have kq := deeper_ok k he
 have HN := next_c b L (deeperP L p)
 have HAT := apat_c b L hL n T HT HA (deeperP L p) kq
 have kt := (apat_adv HA kq).ok kq
 obtain ⟨t, ht⟩ : ∃ t, nxt L (deeperP L p) = t := ⟨_, rfl⟩
 rw [ht] at HN hk
 obtain ⟨tk, tt, tn, ta⟩ := t
 obtain ⟨⟨⟨xk, xs, xn, xl, xp⟩, q1⟩, hx⟩ : ∃ r, apatG L T (deeperP L p) = r := ⟨_, rfl⟩
 rw [hx] at HAT kt ⊢
 simp only [Tok.av, Pa.cells] at HN HAT hk ⊢
 simp only [] at kt
 have hb1 := kt.2.1
 have hb2 := kt.2.2.1
 refine Zv Tryz.func131 J (by kernel_rfl) J (Uk J) ?_
 refine Ye (Zg (Zc (Za 2 J J J (Zy (cs' := [_, _, _, _, _]) J tz_184 J J ?_)))); intro b2
 refine Vx (Zb (Zg (Zg (Zc (Za 5 J J J (Zd J J (Za 6 J J J (Yl J J (Za 7 J J J (Zh J Vs J (Za 8 J J J (Zp (i := 1) J Yz J J J (Za 9 J J J (Xp J J J ?_)))))))))))))); intro c9 h9
 refine Vx (Zb ?_)
 rcases Zi h9 with ⟨rfl, g9⟩ | ⟨rfl, g9⟩
 ·refine Zq J (Zw (Zb (Zg (Zc (Za 11 J J J (Zd J J ?_))))))
  refine Za 12 J J J (Yi (xs := [.tmp 11]) (i := 1) J J J (deeper_c b L p k.2.1 (by have := k.2.2.1; omega)) by1 ?_)
  refine Vx (Zb (Zg (Zc (Za 13 J J J (Zd J J (Za 14 J J J (Ww (xs := [.tmp 13]) [1] J J J (HN) by1 ?_)))))))
  refine Za 15 J J J (Vd (ft := 3) (fo := 0) J (by kernel_rfl) Yz J J ?_)
  refine Za 16 J J J (Yk J J J ?_); intro c16 h16
  refine Za 3 J J J (Zf J J (Vx (Zb (Zg ?_))))
  obtain rfl : c16 = false := by
   cases c16 with
   | false => rfl
   | true => exact absurd (h16.1 rfl) hk
  refine Zc (Za 17 J J J (Zd J J (Za 18 J J J (Yi (xs := [.tmp 17]) (i := 1) J J J (HAT) by1 ?_))))
  refine Za 4 J J J (Zy (cs' := [_, _, _, _, _]) J tz_184 J J ?_); intro b4
  refine Zt J J (Zr (cs' := [_, _, _, _, _]) (i := 0) J ts_184 J J J J J (Uk J) J (Vx (Zb (Zg (Zz ?_)))))
  apply Xl [1, 5, 6, 7, 8, 9, 10, 11, 12, 13, 14, 15, 16, 17, 18, 19, 20, 21, 22, 23, 24, 25, 26, 27, 28, 29, 30] (σ := Unit) (fun zz => match zz with | z => []) (fun zz => match zz with | z => True) (fun zz => match zz with | z => 0) (())
  ·repeat' (first | exact Un | apply Ul rfl | apply Um rfl)
  ·exact trivial
  ·exact by4
  rintro z hI
  try dsimp only [List.cons_append, List.nil_append] at hI ⊢
  refine Zg (Zg (Zc (Za 19 J J J (Zd J J (Za 20 J J J (Zd J J (Zl 21 J J J J J (Zl 22 J J J J J (Za 23 J J J (Zm J J J ?_))))))))))
  refine Vx (Zb (Zq J (Xd (Xf (Xz (Xe (Zb (Zg (Zc (Za 31 J J J (Zd J J (Za 32 J J J (Yl J J ?_)))))))))))))
  refine Za 33 J J J (Zh J tf_95_2 J (Za 34 J J J (Zp (i := 2) J Yz J J J (Za 35 J J J (op_sub J J J (Uo _ (by omega)) ?_)))))
  refine Za 36 J J J (Yl J J (Za 37 J J J (Zh J tf_95_2 J (Zt J J (Zr (i := 2) J Ws J J J J J (Uk J) J (Vx (Zb (Zg (Zc (Za 38 J J J (Zx (cs' := [_, _, _, _, _]) (i := 0) J ta_184 J J J J (Zt J J (Zr (cs' := [_, _, _, _, _]) (i := 1) J ts_184 J J J J J (Uk J) J ?_)))))))))))))
  exact Vx (Zb (Ya (Ym (i := 1) J J J ta_184 J (Ue _) (Ub _ (Ub _ (Ud J))) ⟨J, J⟩)))
 ·exact absurd he g9
set_option maxHeartbeats 4000000 in
set_option maxRecDepth 100000 in
theorem pat_con (b : Nat) (L : List Tok) (hL : L.length ≤ 100000) (n : Nat) (T : PS → Pa × PS) (HT : PaC b L n T) (HA : ∀ q, POk L n q → Adv L q (T q).2) (p : PS) (k : POk L (n + 1) p) (he : p.e = 0) (hk : (nxt L (deeperP L p)).k = 2) (r : List Pa × PS) (hr : patsL L T (L.length + 1) (stepP (deeperP L p)) [] = r) :
    MCall Tryz.prog 131 [.ptr b 0] (.loc b (psC L p)) (.agg (Pa.mk 3 (nxt L (deeperP L p)).t 0 r.1 (nxt L (deeperP L p)).a).cells) (.loc b (psC L (decP r.2))) := by
 have kq := deeper_ok k he
 have HN := next_c b L (deeperP L p)
 have HAT := apat_con b L hL n (deeperP L p) kq hk
 have hlt : (deeperP L p).at_ < L.length := (Vw (by omega)).2
 have ks := (Vn kq hlt).ok kq
 obtain ⟨t, ht⟩ : ∃ t, nxt L (deeperP L p) = t := ⟨_, rfl⟩
 rw [ht] at HN hk HAT ⊢
 obtain ⟨tk, tt, tn, ta⟩ := t
 simp only [Tok.av] at HN HAT hk ⊢
 refine Zv Tryz.func131 J (by kernel_rfl) J (Uk J) ?_
 refine Ye (Zg (Zc (Za 2 J J J (Zy (cs' := [_, _, _, _, _]) J tz_184 J J ?_)))); intro b2
 refine Vx (Zb (Zg (Zg (Zc (Za 5 J J J (Zd J J (Za 6 J J J (Yl J J (Za 7 J J J (Zh J Vs J (Za 8 J J J (Zp (i := 1) J Yz J J J (Za 9 J J J (Xp J J J ?_)))))))))))))); intro c9 h9
 refine Vx (Zb ?_)
 rcases Zi h9 with ⟨rfl, g9⟩ | ⟨rfl, g9⟩
 ·refine Zq J (Zw (Zb (Zg (Zc (Za 11 J J J (Zd J J ?_))))))
  refine Za 12 J J J (Yi (xs := [.tmp 11]) (i := 1) J J J (deeper_c b L p k.2.1 (by have := k.2.2.1; omega)) by1 ?_)
  refine Vx (Zb (Zg (Zc (Za 13 J J J (Zd J J (Za 14 J J J (Ww (xs := [.tmp 13]) [1] J J J (HN) by1 ?_)))))))
  refine Za 15 J J J (Vd (ft := 3) (fo := 0) J (by kernel_rfl) Yz J J ?_)
  refine Za 16 J J J (Yk J J J ?_); intro c16 h16
  refine Za 3 J J J (Zf J J (Vx (Zb (Zg ?_))))
  obtain rfl : c16 = true := h16.2 hk
  refine Zc (Za 17 J J J (Zd J J (Za 18 J J J (Yi (xs := [.tmp 17]) (i := 1) J J J (HAT) by1 ?_))))
  refine Za 4 J J J (Zy (cs' := [_, _, _, _, _]) J tz_184 J J ?_); intro b4
  refine Zt J J (Zr (cs' := [_, _, _, _, _]) (i := 0) J ts_184 J J J J J (Uk J) J (Vx (Zb (Zg (Zz (Wg 184 5 ?_))))))
  apply Wm [1, 5, 6, 7, 8, 9, 10, 11, 12, 13, 14, 15, 16, 17, 18, 19, 20, 21, 22, 23, 24, 25, 26, 27, 28, 29, 30] (σ := PS × Nat × List Pa × Value) (fun zz => match zz with | (q, f, acc, u) => []) (fun zz => match zz with | (q, f, acc, u) => [.loc b4 [.val (.int .i64 3), .val (.string tt), .val (.int .i64 0), .own u 5 (Pa.cellss acc), .val (.int .i64 ta)], .loc b2 zPa, .loc b (psC L q), .own 184 5 u]) (fun zz => match zz with | (q, f, acc, u) => POk L n q ∧ L.length - q.at_ < f ∧ acc.length ≤ q.at_ ∧ patsL L T f q acc = r) (fun zz => match zz with | (q, f, acc, u) => f) ((stepP (deeperP L p), L.length + 1, [], .slice none 0 0))
  ·repeat' (first | exact Un | apply Ul rfl | apply Um rfl)
  ·exact ⟨ks, by omega, Nat.zero_le _, hr⟩
  ·exact by4
  ·exact (Uc _ (Ug (Ue _) (Ug (Ue _) (Ug (Ue _) (Ug (Le.nilOwn 5) (Uf _))))) (Ua _ (Ud J)))
  rintro ⟨q, f, acc, u⟩ hI
  try dsimp only [List.cons_append, List.nil_append] at hI ⊢
  obtain ⟨h1, h2, h3, hu⟩ := hI
  have hq1 := h1.1
  have hb1 := h1.2.1
  have hb2 := h1.2.2.1
  have hle : (Pa.cellss acc).length ≤ 200000 := by rw [Pa.cellss_len]; omega
  refine Zg (Zg (Zc (Za 19 J J J (Zd J J (Za 20 J J J (Zd J J (Zo 21 J J J J J (Zd J J (Zo 22 J J J J J (op_callkb (xs := [.tmp 21, .const (.int .i64 1)]) [2] J J J (starts_c b L q 1) by1 ?_)))))))))); intro c22 h22
  refine Za 23 J J J (Zm J J J (Vx (Zb ?_)))
  rcases Zi h22 with ⟨rfl, g22⟩ | ⟨rfl, g22⟩
  ·refine Zq J (Xd (Xf (Xz (Xe (Zb (Zg (Zc (Za 31 J J J (Zd J J (Za 32 J J J (Yl J J (Za 33 J J J (Zh J tf_95_2 J (Za 34 J J J (Zp (i := 2) J Yz J J J (Za 35 J J J (op_sub J J J (Uo _ (by omega)) ?_)))))))))))))))))
   refine Za 36 J J J (Yl J J (Za 37 J J J (Zh J tf_95_2 J (Zt J J (Zr (i := 2) J Ws J J J J J (Uk J) J (Vx (Zb (Zg (Zc (Za 38 J J J (Zx (cs' := [_, _, _, _, _]) (i := 0) J ta_184 J J J J (Zt J J (Zr (cs' := [_, _, _, _, _]) (i := 1) J ts_184 J J J J J (Uk J) J ?_)))))))))))))
   refine Vx (Zb (Ya ?_))
   rw [patsL_end g22] at hu; subst hu; exact Ym (i := 1) rfl rfl rfl ta_184 rfl (Le.agg (Ug (Ue _) (Ug (Ue _) (Ug (Ue _) (Ug (Le.own _ _ _) (Uf _)))))) (Ub _ (Ub _ (Ua _ (Vz _)))) ⟨rfl, rfl⟩
  ·refine Zu J (Zw (Zb (Zz ?_)))
   obtain ⟨f, rfl⟩ : ∃ f', f = f' + 1 := ⟨f - 1, by omega⟩
   rw [patsL_go g22] at hu
   have b1 := apat_lt HA h1 g22
   have b2 := apat_adv HA h1
   have l2 := b2.ok h1
   have HA2 := apat_c b L hL n T HT HA q h1
   obtain ⟨⟨⟨yk, ys, yn, yl, yp⟩, q2⟩, e2⟩ : ∃ r, apatG L T q = r := ⟨_, rfl⟩
   rw [e2] at HA2 hu l2 b1
   simp only [Pa.cells] at HA2
   simp only [] at b1 l2
   have l3 := l2.1
   refine Wc [0, 1, 2, 3, 4, 5, 6, 7] [3, 5, 7] [[], [0], [], [2], [2, 3], [0, 1, 2, 3, 4], [0, 1, 2, 3, 4, 5], [0, 1, 2, 3, 4, 5, 6]] Wi J (Yc 24 (none) (i := 0) J J J J J (Zh J tf_184_3 J ⟨J, J⟩) ?_)
   refine Yc 25 (some 0) (i := 1) J J J J J (Zp (i := 0) J ta_182 J J J ⟨J, J⟩) ?_
   refine Yc 26 (none) (i := 2) J J J J J (Zd J J ⟨J, J⟩) ?_
   refine Xo 2 (i := 3) J J J J J (Yi (xs := [.tmp 26]) (i := 0) J J J (HA2) by1 ⟨_, J, ?_⟩)
   refine Yc 28 (none) (i := 4) J J J J J (Yh (xs := [.tmp 27]) el_182 J J J J J J (Uk J) ⟨J, J⟩) ?_
   refine Xo 3 (i := 5) J J J J J (Xj (i := 0) el_182 J J J J (.seq _ _) by6 (fun u29 => ⟨_, J, ?_⟩))
   refine Yc 30 (none) (i := 6) J J J J J (Zh J tf_184_3 J ⟨J, J⟩) ?_
   refine Xo 0 (i := 7) J J J J J (Zr (cs' := [_, _, _, _, _]) (i := 0) J ts_182 J J J J J (Uk J) J ⟨_, J, ?_⟩)
   show AGo _ _ _ _ _ _ _
   refine Yw (Xc ?_)
   refine ⟨(q2, f, acc ++ [Pa.mk yk ys yn yl yp], u29), ⟨l2, (by show L.length - q2.at_ < f; omega), (by show (acc ++ [Pa.mk yk ys yn yl yp]).length ≤ q2.at_; rw [List.length_append]; simp; omega), hu⟩, Nat.lt_succ_self f, by4, (Uc _ (Ug (Ue _) (Ug (Ue _) (Ug (Ue _) (Ug (Uj (by rw [Pa.cellss_app']; rfl)) (Uf _))))) (Ua _ (Ud J)))⟩
 ·exact absurd he g9
theorem pat_c (b : Nat) (L : List Tok) (hL : L.length ≤ 100000) : ∀ n, PaC b L n (patF L n)
 | 0, p, k => pat_err b L p (fun e => by have := k.2.2.2 e; omega)
 | n + 1, p, k => by
  by_cases he : p.e = 0
  ·rw [patF, if_neg (by rw [he]; simp)]
   by_cases hk : (nxt L (deeperP L p)).k = 2
   ·rw [if_pos hk]; exact pat_con b L hL n (patF L n) (pat_c b L hL n) (patF_adv n) p k he hk _ rfl
   ·rw [if_neg hk]; exact pat_non b L hL n (patF L n) (pat_c b L hL n) (patF_adv n) p k he hk
  ·rw [patF, if_pos he]; exact pat_err b L p he
theorem patP_c (b : Nat) (L : List Tok) (hL : L.length ≤ 100000) (n : Nat) (p : PS) (k : POk L n p) : MCall Tryz.prog 131 [.ptr b 0] (.loc b (psC L p)) (.agg (patP L p).1.cells) (.loc b (psC L (patP L p).2)) := pat_c b L hL 302 p (k.up (by decide))
end Go.Proofs.YtknodnfbaofngaaGreat
namespace Go.Proofs.YtknodnfbaofngaaGreat
open Go.RowKit
def rowT (i : Nat) : List (List UInt8) := rowsT.getD i []
structure TblAt (w : World) (B : Nat) : Prop where
 row : ∀ i, i < 7 → w.cell? ⟨B + 7, i, none⟩ = some (.slice (some ⟨B + i, 0, none⟩) (rowT i).length (rowT i).length)
 str : ∀ i, i < 7 → ∀ k, k < (rowT i).length → w.cell? ⟨B + i, k, none⟩ = some (.string ⟨((rowT i).getD k []).toArray⟩)
theorem seven {i : Nat} (h : i < 7) : i = 0 ∨ i = 1 ∨ i = 2 ∨ i = 3 ∨ i = 4 ∨ i = 5 ∨ i = 6 := by omega
theorem rowlen (i : Nat) (h : i < 7) : (rowT i).length ≤ 6 := by
 rcases seven h with rfl | rfl | rfl | rfl | rfl | rfl | rfl <;> decide
def missTo (op : List UInt8) (i : Nat) : Prop := ∀ j, j < 7 → j < i → (rowT j).contains op = false
theorem rowT_get {j : Nat} (h : j < rowsT.length) : rowsT[j] = rowT j := by simp [rowT, List.getD, h]
theorem lvl_at {op : List UInt8} {i : Nat} (hi : i < 7) (hm : missTo op i) (hc : (rowT i).contains op = true) : lvl op = i + 1 := by
 unfold lvl
 congr 1
 have hi' : i < rowsT.length := hi
 rw [List.findIdx_eq hi']
 refine ⟨by rw [rowT_get hi']; exact hc, fun j hj => ?_⟩
 have hj' : j < rowsT.length := by omega
 rw [rowT_get hj']
 exact hm j hj' hj
theorem lvl_8 {op : List UInt8} (hm : missTo op 7) : lvl op = 8 := by
 unfold lvl
 have : rowsT.findIdx (fun r => r.contains op) = rowsT.length := by
  rw [List.findIdx_eq_length]
  intro r hr
  obtain ⟨j, hj, rfl⟩ := List.getElem_of_mem hr
  rw [rowT_get hj]
  exact hm j hj hj
 rw [this]; rfl
theorem miss_row {op : List UInt8} {i : Nat} (h : ∀ k, k < (rowT i).length → (rowT i).getD k [] ≠ op) : (rowT i).contains op = false := by
 rw [List.contains_eq_mem, decide_eq_false_iff_not]
 intro hm
 obtain ⟨k, hk, e⟩ := List.getElem_of_mem hm
 exact h k hk (by simp [List.getD, hk, e])
theorem hit_row {op : List UInt8} {i k : Nat} (hk : k < (rowT i).length) (h : (rowT i).getD k [] = op) : (rowT i).contains op = true := by
 rw [List.contains_eq_mem, decide_eq_true_eq]
 have : (rowT i)[k] = op := by simpa [List.getD, hk] using h
 rw [← this]; exact List.getElem_mem hk
set_option maxHeartbeats 4000000 in
theorem rLevel_c (s : ByteArray) (w : World) : Calls Tryz.prog 125 #[.string s] w fun e w' => e = .returned (.int .i64 (lvl s.toList : Nat)) ∧ Below w.heap.size w w' := by
 go_enter Tryz.func125, Tryz.ntmps125
 go_wp2
 go_loopw [4, 5] (fun vi _ wr => ∃ i : Nat, i ≤ 7 ∧ vi = .int .i64 i ∧ missTo s.toList i ∧ TblAt wr w.heap.size ∧ Below w.heap.size w wr) (fun vi _ _ => 7 - (intOf vi).toNat)
 case atStart =>
  refine ⟨0, by omega, J, fun j h hj => by omega, ⟨?_, ?_⟩, ?_⟩
  ·intro i h
   rw [World.cell?_alloc_at _ _ _ _ (by simp only [World.size_alloc])]
   rcases seven h with rfl | rfl | rfl | rfl | rfl | rfl | rfl <;> rfl
  ·intro i h k hk
   rcases seven h with rfl | rfl | rfl | rfl | rfl | rfl | rfl
   all_goals
    have hk6 : k = 0 ∨ k = 1 ∨ k = 2 ∨ k = 3 ∨ k = 4 ∨ k = 5 := by have := rowlen _ h; omega
    rcases hk6 with rfl | rfl | rfl | rfl | rfl | rfl
    all_goals first | (exact absurd hk (by decide)) | skip
    all_goals
     repeat (rw [World.cell?_alloc_past _ _ _ (by simp only [World.size_alloc]; omega)])
     rw [World.cell?_alloc_at _ _ _ _ (by first | rfl | (simp only [World.size_alloc]; done) | (simp only [World.size_alloc]; omega))]
     rfl
  ·exact (((((((((Below.refl _ _).alloc (Nat.le_refl _) _).alloc (by simp) _).alloc (by simp; omega) _).alloc (by simp; omega) _).alloc (by simp; omega) _).alloc (by simp; omega) _).alloc (by simp; omega) _).alloc (by simp; omega) _)
 case round =>
  obtain ⟨i, hi, rfl, hm, hT, hbel⟩ := hrel
  by_cases hi7 : i < 7
  ·have hr := hT.row i hi7
   have hl := rowlen i hi7
   obtain ⟨n, hn⟩ : ∃ n, n = (rowT i).length := ⟨_, rfl⟩
   rw [← hn] at hr hl
   have HN := Lib.hid hn
   have HM := Lib.hid hm
   clear hn hm
   have d1 : decide ((i : Int) < 7) = true := by simp; omega
   go_wp2
   go_loop [5] (fun vk => ∃ k : Nat, k ≤ n ∧ vk = .int .i64 k ∧ ∀ j, j < k → (rowT i).getD j [] ≠ s.toList) (fun vk => n - (intOf vk).toNat)
   case atStart => exact ⟨0, by omega, rfl, fun j hj => by omega⟩
   case round =>
    obtain ⟨k, hk, rfl, hmk⟩ := hrel
    have HMK := Lib.hid hmk
    clear hmk
    by_cases hkn : k < n
    ·have cs := hT.str i hi7 k (by rw [← HN.out]; exact hkn)
     obtain ⟨sk, hsk⟩ : ∃ sk : ByteArray, sk = ⟨((rowT i).getD k []).toArray⟩ := ⟨_, rfl⟩
     have es : sk.toList = (rowT i).getD k [] := by rw [ByteArray.toList_eq, hsk]
     rw [← hsk] at cs
     clear hsk
     have HES := Lib.hid es
     clear es
     by_cases heq : (sk.toList == s.toList) = true
     ·go_wp2
      go_ret
      have h1 : (rowT i).getD k [] = s.toList := by rw [← HES.out]; simpa using heq
      exact ⟨by rw [lvl_at hi7 HM.out (hit_row (by rw [← HN.out]; exact hkn) h1)]; rfl, hbel⟩
     ·have heq' : (sk.toList == s.toList) = false := by simpa using heq
      clear heq
      go_wp2
      go_round
      case rel => exact ⟨k + 1, by omega, by go_num, fun j hj => by
       by_cases e : j = k
       ·subst e; rw [← HES.out]; exact beq_eq_false_iff_ne.1 heq'
       ·exact HMK.out j (by omega)⟩
      case measure => simp [intOf]; omega
    ·go_wp2
     go_roundw
     case rel => exact ⟨i + 1, by omega, by go_num, fun j h hj => by
      by_cases e : j = i
      ·subst e; exact miss_row (fun k' hk' => HMK.out k' (by have := HN.out; omega))
      ·exact HM.out j h (by omega), hT, hbel⟩
     case measure => simp [intOf]; omega
  ·have he : i = 7 := by omega
   subst he
   go_wp2
   go_ret
   exact ⟨by rw [lvl_8 hm]; rfl, hbel⟩
theorem Level_p (s : ByteArray) : PCall Tryz.prog 125 [.val (.string s)] (.val (.int .i64 (lvl s.toList : Nat))) :=
 PCall.of_calls (vs := [.string s]) (enters_of Tryz.func125 (by kernel_rfl) rfl) (fun w => rLevel_c s w)
theorem Level_at (ops : List Tok) (i : Nat) : PCall Tryz.prog 125 [.val (.string ((ops[i]?).getD (tok0 0)).t)] (.val (.int .i64 (lvT ops i : Nat))) := Level_p _
theorem strs_at {ops : List Tok} {i : Nat} (h : i < ops.length) : (strs (ops.map Tok.t))[i]? = some [.val (.string ((ops[i]?).getD (tok0 0)).t)] := by
 simp [strs, List.getElem?_eq_getElem h]
theorem sideN_8 (l : Nat) : ((sideN l : Nat) : Int) = if (l : Int) = 4 then 0 else if (l : Int) < 6 then 2 else 1 := by
 unfold sideN
 repeat' split
 all_goals first | rfl | omega
theorem back_eq {lv : Nat → Nat} {j : Nat} (h : ¬ (0 < j ∧ 4 < lv (j - 1))) : backL lv j = true ↔ (0 < j ∧ lv (j - 1) = 4) := by
 cases j with
 | zero => simp [backL]
 | succ j =>
  simp only [Nat.add_sub_cancel] at h ⊢
  rw [backL, if_neg (fun q => h ⟨Nat.succ_pos j, q⟩)]
  simp
set_option maxHeartbeats 4000000 in
set_option maxRecDepth 100000 in
theorem Side_p (l : Nat) : PCall Tryz.prog 126 [.val (.int .i64 (l : Nat))] (.val (.int .i64 (sideN l : Nat))) := by
 rw [sideN_8]
 refine Zv Tryz.func126 J (by kernel_rfl) J (Uk J) ?_
 refine Ye (Zg (Zc (Za 2 J J J (Zf J J (Vx (Zb (Zg (Zg (Zc (Za 3 J J J (Zd J J (Za 4 J J J (Yk J J J ?_))))))))))))); intro c4 h4
 refine Vx (Zb ?_)
 rcases Zi h4 with ⟨rfl, g4⟩ | ⟨rfl, g4⟩
 ·refine Zq J (Zw (Zb (Zg (Zg (Zc (Za 5 J J J (Zd J J (Za 6 J J J (Ys J J J ?_))))))))); intro c6 h6
  refine Vx (Zb ?_)
  rcases Zi h6 with ⟨rfl, g6⟩ | ⟨rfl, g6⟩
  ·exact Zq J (Zw (Zb (Zg (Zc (Za 2 J J J (Zf J J (Vx (Zb (Ya (Yf J J (Ue _) by3 ⟨by rw [if_neg g4, if_neg g6], J⟩))))))))))
  ·exact Zu J (Zg (Zc (Za 2 J J J (Zf J J (Vx (Zb (Ya (Yf J J (Ue _) by3 ⟨by rw [if_neg g4, if_pos g6], J⟩))))))))
 ·exact Zu J (Zg (Zc (Za 2 J J J (Zf J J (Vx (Zb (Ya (Yf J J (Ue _) by3 ⟨by rw [if_pos g4], J⟩))))))))
set_option maxHeartbeats 4000000 in
set_option maxRecDepth 100000 in
theorem Clash_p (ops : List Tok) (h : ops.length ≤ 200000) : PCall Tryz.prog 106 [.seq 1 (strs (ops.map Tok.t))] (.val (.int .i64 (clashP ops))) := by
 have hl : (strs (ops.map Tok.t)).length = ops.length := by simp [strs]
 have hC : clashP ops = clashL (lvT ops) (ops.length - 0) 0 := rfl
 generalize clashP ops = r at *
 refine Zv Tryz.func106 J (by kernel_rfl) J (Uk J) ?_
 refine Ye (Zg (Zc (Za 2 J J J (Zf J J (Vx (Zb (Zg (Zg (Zc (Za 3 J J J (Zf J J (Vx (Zb (Zz ?_))))))))))))))
 apply Xl [1, 2, 3, 4, 5, 6, 7, 8, 9, 10, 11, 12, 13, 14, 15, 16, 17, 18, 19, 20, 21, 22, 23, 24, 25, 26, 27, 28, 29, 30, 31, 32, 33, 34, 35, 36, 37, 38, 39, 40, 41] (σ := Nat) (fun zz => match zz with | k => [(3, .val (.int .i64 k))]) (fun zz => match zz with | k => k ≤ ops.length ∧ r = clashL (lvT ops) (ops.length - k) k) (fun zz => match zz with | k => ops.length - k) (0)
 ·repeat' (first | exact Un | apply Ul rfl | apply Um rfl)
 ·exact ⟨Nat.zero_le _, hC⟩
 ·exact by4
 rintro k hI
 try dsimp only [List.cons_append, List.nil_append] at hI ⊢
 obtain ⟨h1, hu⟩ := hI
 refine Zg (Zg (Zc (Za 5 J J J (Zd J J (Za 6 J J J (Zd J J ?_))))))
 refine Za 7 J J J (Yv J tu_68 J (.seq _ _) (fun n7 => ?_))
 refine Za 8 J J J (Ys J J J ?_); intro c8 h8
 refine Vx (Zb ?_)
 rcases Zi h8 with ⟨rfl, g8⟩ | ⟨rfl, g8⟩
 ·refine Zq J (Xd (Xf (Xz (Xe (Zb (Zg (Zc (Za 2 J J J (Zf J J (Vx (Zb (Ya ?_))))))))))))
  rw [show ops.length - k = 0 by omega, clashL] at hu; exact Yf rfl rfl (Ue _) by3 ⟨by rw [hu], rfl⟩
 ·refine Zu J (Zw (Zb (Zg (Zz (Zg (Zg ?_))))))
  obtain ⟨d, hd⟩ : ∃ d, ops.length - k = d + 1 := ⟨ops.length - k - 1, by omega⟩
  rw [hd, clashL] at hu
  have hd2 : d = ops.length - (k + 1) := by omega
  rw [hd2] at hu
  refine Zc (Za 11 J J J (Zd J J (Za 12 J J J (Zd J J (Za 13 J J J (Yd J te_68 J (.seq _ _) J J (strs_at (ops := ops) (i := k) (by omega)) ?_))))))
  refine Za 14 J J J (Zn J Xb J J (Za 15 J J J (Yn (xs := [.tmp 14]) J J (Level_at ops k) by1 ?_)))
  refine Za 16 J J J (Xp J J J ?_); intro c16 h16
  refine Vx (Zb ?_)
  rcases Zi h16 with ⟨rfl, g16⟩ | ⟨rfl, g16⟩
  ·refine Zq J (Zw (Zb (Zg (Zc (Za 17 J J J (Zd J J (Za 18 J J J (op_sub J J J (Uo _ (by omega)) ?_))))))))
   refine Za 4 J J J (Zf J J (Vx (Zb (Zg (Zz ?_)))))
   apply Xl [1, 4, 19, 20, 21, 22, 23, 24, 25, 26, 27, 28, 29, 30] (σ := Nat) (fun zz => match zz with | j => [(4, .val (.int .i64 ((j : Int) - 1)))]) (fun zz => match zz with | j => j ≤ k ∧ backL (lvT ops) k = backL (lvT ops) j) (fun zz => match zz with | j => j) (k)
   ·repeat' (first | exact Un | apply Ul rfl | apply Um rfl)
   ·exact ⟨Nat.le_refl _, J⟩
   ·exact by4
   rintro j hI
   try dsimp only [List.cons_append, List.nil_append] at hI ⊢
   obtain ⟨h2, hb⟩ := hI
   refine Zg (Zg (Xm 28 (0 < j ∧ 4 < lvT ops (j - 1)) ?_ _ _ J ?_))
   ·skip
    refine Za 19 J J J (Zd J J (Za 20 J J J (Xx J J J ?_))); intro c20 h20
    refine Za 21 J J J (Zd J J ?_)
    rcases Zi h20 with ⟨rfl, g20⟩ | ⟨rfl, g20⟩
    ·skip
     refine Zl 22 J J J J J (Zl 23 J J J J J (Zl 24 J J J J J (Zl 25 J J J J J (Zl 26 J J J J J (Zl 27 J J J J J ?_)))))
     refine Za 28 J J J (Zm J J J (Vx (Ui J ?_ by5 by3)))
     first | (simp_all; done) | (simp_all; omega) | grind
    ·skip
     refine Zo 22 J J J J J (Zd J J (Zo 23 J J J J J (Zd J J ?_)))
     refine Zo 24 J J J J J (Yd (i := (j - 1)) J te_68 J (.seq _ _) J (by first | rfl | omega) (strs_at (ops := ops) (i := j - 1) (by omega)) ?_)
     refine Zo 25 J J J J J (Zn J Xb J J (Zo 26 J J J J J (Yn (xs := [.tmp 25]) J J (Level_at ops (j - 1)) by1 ?_)))
     refine Zo 27 J J J J J (Vg J J J ?_); intro c27 h27
     refine Za 28 J J J (Zm J J J (Vx (Ui J ?_ by5 by3)))
     first | (simp_all; done) | (simp_all; omega) | grind
   intro c28 h28
   refine Zb ?_
   rcases Zi h28 with ⟨rfl, g28⟩ | ⟨rfl, g28⟩
   ·refine Zq J (Xd (Xf (Xz (Xe (Zb (Zg (Xm 40 (0 < j ∧ lvT ops (j - 1) = 4) ?_ _ _ J ?_)))))))
    ·skip
     refine Za 31 J J J (Zd J J (Za 32 J J J (Xx J J J ?_))); intro c32 h32
     refine Za 33 J J J (Zd J J ?_)
     rcases Zi h32 with ⟨rfl, g32⟩ | ⟨rfl, g32⟩
     ·skip
      refine Zl 34 J J J J J (Zl 35 J J J J J (Zl 36 J J J J J (Zl 37 J J J J J (Zl 38 J J J J J (Zl 39 J J J J J ?_)))))
      refine Za 40 J J J (Zm J J J (Vx (Ui J ?_ by5 by3)))
      first | (simp_all; done) | (simp_all; omega) | grind
     ·skip
      refine Zo 34 J J J J J (Zd J J (Zo 35 J J J J J (Zd J J ?_)))
      refine Zo 36 J J J J J (Yd (i := (j - 1)) J te_68 J (.seq _ _) J (by first | rfl | omega) (strs_at (ops := ops) (i := j - 1) (by omega)) ?_)
      refine Zo 37 J J J J J (Zn J Xb J J (Zo 38 J J J J J (Yn (xs := [.tmp 37]) J J (Level_at ops (j - 1)) by1 ?_)))
      refine Zo 39 J J J J J (Yk J J J ?_); intro c39 h39
      refine Za 40 J J J (Zm J J J (Vx (Ui J ?_ by5 by3)))
      first | (simp_all; done) | (simp_all; omega) | grind
    intro c40 h40
    refine Zb ?_
    rcases Zi h40 with ⟨rfl, g40⟩ | ⟨rfl, g40⟩
    ·refine Zq J (Zw (Yw (Zb (Zc (Za 9 J J J (Zd J J (Za 10 J J J (Yx J J J (Uo _ (by omega)) ?_))))))))
     refine Za 3 J J J (Zf J J (Vx (Xc ?_)))
     have hu2 : r = clashL (lvT ops) (ops.length - (k + 1)) (k + 1) := by
      first
       | (rw [if_neg (fun q => g40 ((back_eq g28).1 (by rw [← hb]; exact q.2)))] at hu; exact hu)
       | (rw [if_neg (fun q => g16 (by omega))] at hu; exact hu)
     exact ⟨k + 1, ⟨by omega, hu2⟩, by show ops.length - (k + 1) < ops.length - k; omega, Uh J (Le.inteq (by omega)) by4, by3⟩
    ·refine Zu J (Zg (Zc (Za 41 J J J (Zd J J (Za 2 J J J (Zf J J (Vx (Zb (Ya ?_)))))))))
     rw [if_pos ⟨by omega, by rw [hb]; exact (back_eq g28).2 g40⟩] at hu; exact Yf rfl rfl (Ue _) by3 ⟨by rw [hu], rfl⟩
   ·refine Zu J (Zw (Zb (Zz ?_)))
    obtain ⟨j, rfl⟩ : ∃ j', j = j' + 1 := ⟨j - 1, by omega⟩
    simp only [Nat.add_sub_cancel] at g28
    rw [backL, if_pos g28.2] at hb
    refine Zc (Za 29 J J J (Zd J J (Za 30 J J J (op_sub J J J (Uo _ (by omega)) ?_))))
    refine Za 4 J J J (Zf J J (Vx (Yw (Xc ?_))))
    exact ⟨j, ⟨by omega, hb⟩, Nat.lt_succ_self j, Uh J (Le.inteq (by omega)) by4, by3⟩
  ·refine Zu J (Xd (Xf (Xe (Zb (Zc (Za 9 J J J (Zd J J (Za 10 J J J (Yx J J J (Uo _ (by omega)) ?_)))))))))
   refine Za 3 J J J (Zf J J (Vx (Xc ?_)))
   have hu2 : r = clashL (lvT ops) (ops.length - (k + 1)) (k + 1) := by
    first
     | (rw [if_neg (fun q => g40 ((back_eq g28).1 (by rw [← hb]; exact q.2)))] at hu; exact hu)
     | (rw [if_neg (fun q => g16 (by omega))] at hu; exact hu)
   exact ⟨k + 1, ⟨by omega, hu2⟩, by show ops.length - (k + 1) < ops.length - k; omega, Uh J (Le.inteq (by omega)) by4, by3⟩
abbrev zEx : List AV := [.val (.int .i64 0), .val (.string kE), .val (.int .i64 0), .val (.int .i64 0), .val (.string kE), .val (.int .i64 0), .val (.slice none 0 0), .val (.slice none 0 0), .val (.slice none 0 0), .val (.slice none 0 0), .val (.int .i64 0)]
theorem rootB_in (ops : List Tok) : ∀ (f a i lo : Nat), lo ≤ a → a < i → lo ≤ rootB ops f a i ∧ rootB ops f a i < i + f
 | 0, a, i, lo, h1, h2 => ⟨h1, h2⟩
 | f + 1, a, i, lo, h1, h2 => by
  unfold rootB
  split
  ·have := rootB_in ops f i (i + 1) lo (by omega) (Nat.lt_succ_self i); omega
  ·have := rootB_in ops f a (i + 1) lo h1 (by omega); omega
theorem toks_at {ops : List Tok} {i : Nat} (h : i < ops.length) : (ops.map Tok.av)[i]? = some ((ops[i]?).getD (tok0 0)).av := by
 simp [List.getElem?_eq_getElem h]
theorem exs_at {l : List Ex} {i : Nat} (h : i < l.length) : (Ex.cellss l)[i]? = some ((l[i]?).getD ex0).cells := by
 rw [Ex.cellss_map]; simp [List.getElem?_eq_getElem h]
set_option maxHeartbeats 4000000 in
set_option maxRecDepth 100000 in
theorem Build_one (l : List Ex) (ops : List Tok) (hl : l.length = ops.length + 1) (a : Nat) (ha : a ≤ ops.length) : PCall Tryz.prog 107 [.seq 11 (Ex.cellss l), .seq 4 (ops.map Tok.av), .val (.int .i64 a), .val (.int .i64 a)] (.agg ((l[a]?).getD ex0).cells) := by
 have hx := exs_at (l := l) (i := a) (by omega)
 obtain ⟨⟨xk, xs, xn, ⟨xtk, xts, xtn, xtl⟩, xks, xal, xbs, xp⟩, e⟩ : ∃ x, (l[a]?).getD ex0 = x := ⟨_, rfl⟩
 rw [e] at hx ⊢
 refine Zv Tryz.func107 J (by kernel_rfl) J (Uk J) ?_
 refine Ye (Zg (Zc (Za 8 J J J (Zy (cs' := [_, _, _, _, _, _, _, _, _, _, _]) J Wh J J ?_)))); intro b8
 refine Vx (Zb (Zg (Zg (Zc (Za 17 J J J (Zd J J (Za 18 J J J (Zd J J (Za 19 J J J (Yk J J J ?_)))))))))); intro c19 h19
 refine Vx (Zb ?_)
 rcases Zi h19 with ⟨rfl, g19⟩ | ⟨rfl, g19⟩
 ·exact absurd J g19
 ·refine Zu J (Zg (Zc (Za 20 J J J (Zd J J (Za 21 J J J (Zd J J (Za 22 J J J (Yd J te_107 J (.seq _ _) J J (hx) (Za 23 J J J (Yb (cs' := [_, _, _, _, _, _, _, _, _, _, _]) J Wj J J J (Zt J J (Zr (cs' := [_, _, _, _, _, _, _, _, _, _, _]) (i := 0) J Wt J J J J J (Uk J) J ?_))))))))))))
  exact Vx (Zb (Ya (Ym (i := 0) J J J Wj J (Ue _) by3 ⟨J, J⟩)))
set_option maxHeartbeats 4000000 in
set_option maxRecDepth 100000 in
theorem Build_two (l : List Ex) (ops : List Tok) (hL : ops.length ≤ 200000) (a b d : Nat) (hab : a < b) (hb : b ≤ ops.length) (hd : b - a ≤ d + 1)
    (IH : ∀ a b, a ≤ b → b ≤ ops.length → b - a ≤ d → PCall Tryz.prog 107 [.seq 11 (Ex.cellss l), .seq 4 (ops.map Tok.av), .val (.int .i64 a), .val (.int .i64 b)] (.agg (buildF l ops d a b).cells)) :
    PCall Tryz.prog 107 [.seq 11 (Ex.cellss l), .seq 4 (ops.map Tok.av), .val (.int .i64 a), .val (.int .i64 b)] (.agg (buildF l ops (d + 1) a b).cells) := by
 rw [buildF, if_neg (by omega)]
 obtain ⟨r, hr⟩ : ∃ r, rootB ops (b - (a + 1)) a (a + 1) = r := ⟨_, rfl⟩
 have hin := rootB_in ops (b - (a + 1)) a (a + 1) a (Nat.le_refl _) (Nat.lt_succ_self a)
 rw [hr] at hin ⊢
 have H1 := IH a r hin.1 (by omega) (by omega)
 have H2 := IH (r + 1) b (by omega) hb (by omega)
 have hop := toks_at (ops := ops) (i := r) (by omega)
 obtain ⟨⟨xk, xs, xn, ⟨xtk, xts, xtn, xtl⟩, xks, xal, xbs, xp⟩, e1⟩ : ∃ x, buildF l ops d a r = x := ⟨_, rfl⟩
 obtain ⟨⟨yk, ys, yn, ⟨ytk, yts, ytn, ytl⟩, yks, yal, ybs, yp⟩, e2⟩ : ∃ x, buildF l ops d (r + 1) b = x := ⟨_, rfl⟩
 obtain ⟨⟨ok, ot, on, oa⟩, e3⟩ : ∃ x, (ops[r]?).getD (tok0 0) = x := ⟨_, rfl⟩
 rw [e1] at H1 ⊢
 rw [e2] at H2 ⊢
 rw [e3] at hop ⊢
 simp only [Ex.cells, Ty.cells, List.cons_append, List.nil_append, Tok.av] at H1 H2 hop
 clear IH
 obtain ⟨z, hz⟩ : ∃ z, binE (Tok.mk ok ot on oa) (Ex.mk xk xs xn (Ty.mk xtk xts xtn xtl) xks xal xbs xp) (Ex.mk yk ys yn (Ty.mk ytk yts ytn ytl) yks yal ybs yp) = z := ⟨_, rfl⟩
 rw [hz]
 unfold binE at hz
 simp only [] at hz
 refine Zv Tryz.func107 J (by kernel_rfl) J (Uk J) ?_
 refine Ye (Zg (Zc (Za 8 J J J (Zy (cs' := [_, _, _, _, _, _, _, _, _, _, _]) J Wh J J ?_)))); intro b8
 refine Vx (Zb (Zg (Zg (Zc (Za 17 J J J (Zd J J (Za 18 J J J (Zd J J (Za 19 J J J (Yk J J J ?_)))))))))); intro c19 h19
 refine Vx (Zb ?_)
 rcases Zi h19 with ⟨rfl, g19⟩ | ⟨rfl, g19⟩
 ·refine Zq J (Zw (Zb (Zg (Zc (Za 24 J J J (Zd J J (Za 9 J J J (Zf J J (Vx (Zb (Zg (Zg (Zc (Za 25 J J J (Zd J J (Za 26 J J J (Yx J J J (Uo _ (by omega)) ?_)))))))))))))))))
  refine Za 10 J J J (Zf J J (Vx (Zb (Zz ?_))))
  apply Xl [4, 5, 6, 7, 9, 10, 11, 12, 17, 18, 19, 20, 21, 22, 23, 24, 25, 26, 27, 28, 29, 30, 31, 32, 33, 34, 35, 36, 37, 38, 39, 40, 41, 42, 43, 44, 45, 46, 47, 48, 49, 50, 51, 52, 53, 54, 55, 56, 57] (σ := Nat × Nat) (fun zz => match zz with | (t, i) => [(9, .val (.int .i64 t)), (10, .val (.int .i64 i))]) (fun zz => match zz with | (t, i) => a ≤ t ∧ t < i ∧ i ≤ b ∧ rootB ops (b - i) t i = r) (fun zz => match zz with | (t, i) => b - i) ((a, a + 1))
  ·repeat' (first | exact Un | apply Ul rfl | apply Um rfl)
  ·exact ⟨Nat.le_refl _, Nat.lt_succ_self a, hab, hr⟩
  ·exact by4
  rintro ⟨t, i⟩ hI
  try dsimp only [List.cons_append, List.nil_append] at hI ⊢
  obtain ⟨h1, h2, h3, hu⟩ := hI
  refine Zg (Zg (Zc (Za 27 J J J (Zd J J (Za 28 J J J (Zd J J (Za 29 J J J (Ys J J J ?_)))))))); intro c29 h29
  refine Vx (Zb ?_)
  rcases Zi h29 with ⟨rfl, g29⟩ | ⟨rfl, g29⟩
  ·refine Zq J (Xd (Xf (Xz (Xe (Zb (Zg ?_))))))
   rw [show b - i = 0 by omega, rootB] at hu
   subst hu
   refine Zc (Za 58 J J J (Zd J J (Za 59 J J J (Zd J J (Za 60 J J J (Zd J J (Za 61 J J J (Zd J J (Za 62 J J J (Yn (xs := [.tmp 58, .tmp 59, .tmp 60, .tmp 61]) J J (H1) by1 ?_))))))))))
   refine Za 13 J J J (Zy (cs' := [_, _, _, _, _, _, _, _, _, _, _]) J Wh J J ?_); intro b13
   refine Zt J J (Zr (cs' := [_, _, _, _, _, _, _, _, _, _, _]) (i := 0) J Wt J J J J J (Uk J) J (Vx (Zb (Zg (Zc (Za 63 J J J (Zd J J (Za 64 J J J (Zd J J (Za 65 J J J (Zd J J (Za 66 J J J (Yx J J J (Uo _ (by omega)) ?_)))))))))))))
   refine Za 67 J J J (Zd J J (Za 68 J J J (Yn (xs := [.tmp 63, .tmp 64, .tmp 66, .tmp 67]) J J (H2) by1 ?_)))
   refine Za 14 J J J (Zy (cs' := [_, _, _, _, _, _, _, _, _, _, _]) J Wh J J ?_); intro b14
   refine Zt J J (Zr (cs' := [_, _, _, _, _, _, _, _, _, _, _]) (i := 0) J Wt J J J J J (Uk J) J (Vx (Zb (Zg (Zc (Za 69 J J J (Zd J J (Za 70 J J J (Zd J J (Za 71 J J J (Yd J te_93 J (.seq _ _) J J (hop) (Za 72 J J J (Yb (cs' := [_, _, _, _]) J Yt J J J ?_)))))))))))))
   refine Za 15 J J J (Zy (cs' := [_, _, _, _]) J Wq J J ?_); intro b15
   refine Zt J J (Zr (cs' := [_, _, _, _]) (i := 0) J Xk J J J J J (Uk J) J (Vx (Zb (Zg (Zg (Zc (Za 73 J J J (Zh J Xi J (Za 74 J J J (Zp (i := 0) J Xb J J J (Za 75 J J J (Xv J J J ?_)))))))))))); intro c75 h75
   refine Vx (Zb ?_)
   rcases Zi h75 with ⟨rfl, g75⟩ | ⟨rfl, g75⟩
   ·refine Zq J (Zw (Zb (Zg (Zg (Zc (Za 82 J J J (Zh J Xi J (Za 83 J J J (Zp (i := 0) J Xb J J J (Za 84 J J J (Xv J J J ?_))))))))))); intro c84 h84
    refine Vx (Zb ?_)
    rcases Zi h84 with ⟨rfl, g84⟩ | ⟨rfl, g84⟩
    ·refine Zq J (Zw (Zb (Zg (Zc (Za 91 J J J (Zh J Xi J (Za 92 J J J (Zp (i := 0) J Xb J J J (Za 93 J J J (Zh J Wz J (Za 94 J J J (Zp (i := 0) J Yz J J J (Za 95 J J J (Yo (ns := [0, 1, 7]) (xs := [.const (.int .i64 3), .tmp 92, .tmp 94]) J Wh J tfl_110 J J J J ?_))))))))))))))
     refine Za 16 J J J (Zy (cs' := [_, _, _, _, _, _, _, _, _, _, _]) J Wh J J ?_); intro b16
     refine Zt J J (Zr (cs' := [_, _, _, _, _, _, _, _, _, _, _]) (i := 0) J Wt J J J J J (Uk J) J (Vx (Zb (Zg (Zc (Za 96 J J J (Zx (cs' := [_, _, _, _, _, _, _, _, _, _, _]) (i := 0) J Wj J J J J (Za 97 J J J (Zx (cs' := [_, _, _, _, _, _, _, _, _, _, _]) (i := 3) J Wj J J J J (Za 98 J J J (Yh (xs := [.tmp 96, .tmp 97]) el_107 J J J J J J (Uk J) (Za 99 J J J (Zh J Wz J ?_)))))))))))))
     refine Za 100 J J J (Zp (i := 1) J Yz J J J (Za 101 J J J (Yo (ns := [0, 4, 7]) (xs := [.const (.int .i64 5), .tmp 98, .tmp 100]) J Wh J tfl_110 J J J J (Zt J J (Zr (cs' := [_, _, _, _, _, _, _, _, _, _, _]) (i := 0) J Wt J J J J J (Uk J) J (Vx (Zb (Zg (Zc (Za 102 J J J (Zx (cs' := [_, _, _, _, _, _, _, _, _, _, _]) (i := 0) J Wj J J J J (Za 103 J J J (Zx (cs' := [_, _, _, _, _, _, _, _, _, _, _]) (i := 2) J Wj J J J J ?_)))))))))))))
     refine Za 104 J J J (Yh (xs := [.tmp 102, .tmp 103]) el_107 J J J J J J (Uk J) (Za 105 J J J (Zh J Wz J (Za 106 J J J (Zp (i := 1) J Yz J J J (Za 107 J J J (Yo (ns := [0, 4, 7]) (xs := [.const (.int .i64 5), .tmp 104, .tmp 106]) J Wh J tfl_110 J J J J (Zt J J (Zr (cs' := [_, _, _, _, _, _, _, _, _, _, _]) (i := 4) J Wt J J J J J (Uk J) J (Vx (Zb ?_)))))))))))
     refine Ya ?_
     rw [if_neg g75, if_neg g84] at hz; subst hz; exact Ym (i := 4) rfl rfl rfl Wj rfl by0 by3 ⟨rfl, rfl⟩
    ·refine Zu J (Zg (Zc (Za 85 J J J (Zx (cs' := [_, _, _, _, _, _, _, _, _, _, _]) (i := 2) J Wj J J J J (Za 86 J J J (Zx (cs' := [_, _, _, _, _, _, _, _, _, _, _]) (i := 1) J Wj J J J J (Za 87 J J J (Yh (xs := [.tmp 85, .tmp 86]) el_107 J J J J J J (Uk J) (Za 88 J J J (Zh J Wz J (Za 89 J J J (Zp (i := 0) J Yz J J J ?_))))))))))))
     refine Za 90 J J J (Yo (ns := [0, 4, 7]) (xs := [.const (.int .i64 11), .tmp 87, .tmp 89]) J Wh J tfl_110 J J J J (Zt J J (Zr (cs' := [_, _, _, _, _, _, _, _, _, _, _]) (i := 3) J Wt J J J J J (Uk J) J (Vx (Zb (Ya ?_))))))
     rw [if_neg g75, if_pos g84] at hz; subst hz; exact Ym (i := 3) rfl rfl rfl Wj rfl by0 by3 ⟨rfl, rfl⟩
   ·refine Zu J (Zg (Zc (Za 76 J J J (Zx (cs' := [_, _, _, _, _, _, _, _, _, _, _]) (i := 2) J Wj J J J J (Za 77 J J J (Zx (cs' := [_, _, _, _, _, _, _, _, _, _, _]) (i := 1) J Wj J J J J (Za 78 J J J (Yh (xs := [.tmp 76, .tmp 77]) el_107 J J J J J J (Uk J) (Za 79 J J J (Zh J Wz J (Za 80 J J J (Zp (i := 0) J Yz J J J ?_))))))))))))
    refine Za 81 J J J (Yo (ns := [0, 4, 7]) (xs := [.const (.int .i64 10), .tmp 78, .tmp 80]) J Wh J tfl_110 J J J J (Zt J J (Zr (cs' := [_, _, _, _, _, _, _, _, _, _, _]) (i := 3) J Wt J J J J J (Uk J) J (Vx (Zb (Ya ?_))))))
    rw [if_pos g75] at hz; subst hz; exact Ym (i := 3) rfl rfl rfl Wj rfl by0 by3 ⟨rfl, rfl⟩
  ·refine Zu J (Zw (Zb (Zg (Zz (Zg (Zc (Za 32 J J J (Zd J J (Za 33 J J J (Zd J J (Za 34 J J J (Yd J te_93 J (.seq _ _) J J (toks_at (ops := ops) (i := t) (by omega)) ?_))))))))))))
   refine Za 35 J J J (Zj J Xi J J (Za 36 J J J (Zn J Xb J J (Za 37 J J J (Yn (xs := [.tmp 36]) J J (Level_at ops t) by1 ?_)))))
   refine Za 11 J J J (Zf J J (Vx (Zb (Zg (Zc (Za 38 J J J (Zd J J (Za 39 J J J (Zd J J (Za 40 J J J (Yd J te_93 J (.seq _ _) J J (toks_at (ops := ops) (i := i) (by omega)) ?_)))))))))))
   refine Za 41 J J J (Zj J Xi J J (Za 42 J J J (Zn J Xb J J (Za 43 J J J (Yn (xs := [.tmp 42]) J J (Level_at ops i) by1 ?_)))))
   refine Za 12 J J J (Zf J J (Vx (Zb (Zg (Xm 56 (lvT ops i < lvT ops t ∨ (lvT ops i = lvT ops t ∧ sideN (lvT ops t) = 1)) ?_ _ _ J ?_)))))
   ·skip
    refine Za 44 J J J (Zd J J (Za 45 J J J (Zd J J (Za 46 J J J (Ys J J J ?_))))); intro c46 h46
    refine Za 47 J J J (Zd J J ?_)
    rcases Zi h46 with ⟨rfl, g46⟩ | ⟨rfl, g46⟩
    ·skip
     refine Zo 48 J J J J J (Zd J J (Zo 49 J J J J J (Zd J J (Zo 50 J J J J J (Yk J J J ?_))))); intro c50 h50
     refine Zo 51 J J J J J (Zd J J ?_)
     rcases Zi h50 with ⟨rfl, g50⟩ | ⟨rfl, g50⟩
     ·skip
      refine Zl 52 J J J J J (Zl 53 J J J J J (Zl 54 J J J J J (Zo 55 J J J J J (Zm J J J (Za 56 J J J (Zm J J J (Vx ?_)))))))
      refine Ui J ?_ by5 by3
      clear H1 H2; first | (simp_all; done) | (simp_all; omega) | grind
     ·skip
      refine Zo 52 J J J J J (Zd J J (Zo 53 J J J J J (Yn (xs := [.tmp 52]) J J (Side_p (lvT ops t)) by1 ?_)))
      refine Zo 54 J J J J J (Yk J J J ?_); intro c54 h54
      refine Zo 55 J J J J J (Zm J J J (Za 56 J J J (Zm J J J (Vx (Ui J ?_ by5 by3)))))
      clear H1 H2; first | (simp_all; done) | (simp_all; omega) | grind
    ·skip
     refine Zl 48 J J J J J (Zl 49 J J J J J (Zl 50 J J J J J (Zl 51 J J J J J (Yr 52 J J J J J (Yr 53 J J J J J ?_)))))
     refine Yr 54 J J J J J (Zl 55 J J J J J (Za 56 J J J (Zm J J J (Vx (Ui J ?_ by5 by3)))))
     clear H1 H2; first | (simp_all; done) | (simp_all; omega) | grind
   intro c56 h56
   refine Zb ?_
   rcases Zi h56 with ⟨rfl, g56⟩ | ⟨rfl, g56⟩
   ·refine Zq J (Zw (Yw (Zb ?_)))
    obtain ⟨f, hf⟩ : ∃ f, b - i = f + 1 := ⟨b - i - 1, by omega⟩
    rw [hf, rootB] at hu
    have hf2 : f = b - (i + 1) := by omega
    rw [hf2] at hu
    refine Zc (Za 30 J J J (Zd J J (Za 31 J J J (Yx J J J (Uo _ (by omega)) ?_))))
    refine Za 10 J J J (Zf J J (Vx (Xc ?_)))
    first
    | (rw [if_pos g56] at hu; exact ⟨(i, i + 1), ⟨by show a ≤ i; omega, Nat.lt_succ_self i, by show i + 1 ≤ b; omega, hu⟩, by show b - (i + 1) < b - i; omega, Uh rfl (Ue _) (Uh rfl (Le.inteq (by omega)) by4), by3⟩)
    | (rw [if_neg g56] at hu; exact ⟨(t, i + 1), ⟨h1, by show t < i + 1; omega, by show i + 1 ≤ b; omega, hu⟩, by show b - (i + 1) < b - i; omega, Uh rfl (Ue _) (Uh rfl (Le.inteq (by omega)) by4), by3⟩)
   ·refine Zu J (Zc (Za 57 J J J (Zd J J (Za 9 J J J (Zf J J (Vx (Yw (Zb ?_))))))))
    obtain ⟨f, hf⟩ : ∃ f, b - i = f + 1 := ⟨b - i - 1, by omega⟩
    rw [hf, rootB] at hu
    have hf2 : f = b - (i + 1) := by omega
    rw [hf2] at hu
    refine Zc (Za 30 J J J (Zd J J (Za 31 J J J (Yx J J J (Uo _ (by omega)) ?_))))
    refine Za 10 J J J (Zf J J (Vx (Xc ?_)))
    first
    | (rw [if_pos g56] at hu; exact ⟨(i, i + 1), ⟨by show a ≤ i; omega, Nat.lt_succ_self i, by show i + 1 ≤ b; omega, hu⟩, by show b - (i + 1) < b - i; omega, Uh rfl (Ue _) (Uh rfl (Le.inteq (by omega)) by4), by3⟩)
    | (rw [if_neg g56] at hu; exact ⟨(t, i + 1), ⟨h1, by show t < i + 1; omega, by show i + 1 ≤ b; omega, hu⟩, by show b - (i + 1) < b - i; omega, Uh rfl (Ue _) (Uh rfl (Le.inteq (by omega)) by4), by3⟩)
 ·omega
theorem Build_c (l : List Ex) (ops : List Tok) (hl : l.length = ops.length + 1) (hL : ops.length ≤ 200000) : ∀ (d a b : Nat), a ≤ b → b ≤ ops.length → b - a ≤ d → PCall Tryz.prog 107 [.seq 11 (Ex.cellss l), .seq 4 (ops.map Tok.av), .val (.int .i64 a), .val (.int .i64 b)] (.agg (buildF l ops d a b).cells)
 | 0, a, b, h1, h2, h3 => by
  obtain rfl : a = b := by omega
  exact Build_one l ops hl a h2
 | d + 1, a, b, h1, h2, h3 => by
  by_cases h : a = b
  ·subst h
   rw [buildF, if_pos rfl]
   exact Build_one l ops hl a h2
  ·exact Build_two l ops hL a b d (by omega) h2 h3 (Build_c l ops hl hL d)
def ExC (b : Nat) (L : List Tok) (n : Nat) (E : PS → Ex × PS) : Prop := ∀ q, POk L n q → MCall Tryz.prog 86 [.ptr b 0] (.loc b (psC L q)) (.agg (E q).1.cells) (.loc b (psC L (E q).2))
theorem take_prog {L : List Tok} {p : PS} {kind : Int} {s : ByteArray} (hk : kind ≠ 0) (h : (takeP L p kind s).2.e = 0) : takeP L p kind s = (nxt L p, stepP p) ∧ p.e = 0 ∧ p.at_ < L.length := by
 unfold takeP at h ⊢
 by_cases q : p.e ≠ 0
 ·rw [if_pos q] at h; exact absurd h q
 ·rw [if_neg q] at h ⊢
  by_cases q2 : (kind < 6 ∧ (nxt L p).k ≠ kind) ∨ (6 ≤ kind ∧ ((nxt L p).k < 6 ∨ (nxt L p).t ≠ s))
  ·rw [if_pos q2] at h; exact absurd h (fail_ne (by decide))
  ·rw [if_neg q2]; exact ⟨rfl, Vw (by omega)⟩
theorem nxt_ok {L : List Tok} {p : PS} (h : (nxt L p).k ≠ 0) : p.e = 0 := (Vw h).1
set_option maxHeartbeats 4000000 in
set_option maxRecDepth 100000 in
theorem bind_c (b : Nat) (L : List Tok) (hL : L.length ≤ 100000) (n : Nat) (E : PS → Ex × PS) (HE : ExC b L n E) (p : PS) (k : POk L n p) : MCall Tryz.prog 56 [.ptr b 0] (.loc b (psC L p)) (.agg (bindG L E p).1.cells) (.loc b (psC L (bindG L E p).2)) := by
 have H1 := pName_c b L hL n p k
 have k1 := (name_adv k).ok k
 have H2 := take_c b L hL _ k1.1 7 kEq
 have k2 := (Yp (kind := 7) (s := kEq) (by decide) k1).ok k1
 have H3 := HE _ k2
 obtain ⟨r, hr⟩ : ∃ r, bindG L E p = r := ⟨_, rfl⟩
 rw [hr]
 unfold bindG at hr
 obtain ⟨⟨⟨tk, tt, tn, ta⟩, p1⟩, e1⟩ : ∃ r, nameP L p = r := ⟨_, rfl⟩
 rw [e1] at H1 H2 H3 hr
 obtain ⟨⟨u2, p2⟩, e2⟩ : ∃ r, takeP L p1 7 kEq = r := ⟨_, rfl⟩
 simp only [] at H2 H3 hr
 rw [e2] at H2 H3 hr
 simp only [] at H2 H3 hr
 obtain ⟨⟨⟨xk, xs, xn, ⟨xtk, xts, xtn, xtl⟩, xks, xal, xbs, xp⟩, p3⟩, e3⟩ : ∃ r, E p2 = r := ⟨_, rfl⟩
 rw [e3] at H3 hr
 simp only [Ex.cells, Ty.cells, List.cons_append, List.nil_append, Tok.av] at H1 H3 hr
 subst hr
 refine Zv Tryz.func56 J (by kernel_rfl) J (Uk J) ?_
 refine Ye (Zg (Zc (Za 2 J J J (Zy (cs' := [_, _, _, _, _, _, _, _, _, _, _, _, _]) J tz_112 J J ?_)))); intro b2
 refine Vx (Zb (Zg (Zc (Za 4 J J J (Zd J J (Za 5 J J J (Yi (xs := [.tmp 4]) (i := 1) J J J (H1) by1 ?_)))))))
 refine Za 3 J J J (Zy (cs' := [_, _, _, _]) J Wq J J ?_); intro b3
 refine Zt J J (Zr (cs' := [_, _, _, _]) (i := 0) J Xk J J J J J (Uk J) J (Vx (Zb (Zg (Zc (Za 6 J J J (Zd J J (Za 7 J J J (Yi (xs := [.tmp 6, .const (.int .i64 7), .const (.string ⟨#[61]⟩)]) (i := 2) J J J (H2) by1 ?_)))))))))
 refine Vx (Zb (Zg (Wc [0, 1, 2, 4, 5, 3, 6, 7] [3, 7] [[], [0], [], [2], [], [4], [0, 1, 2, 3, 4, 5], [0, 1, 2, 3, 4, 5, 6]] Wi J (Yc 8 (none) (i := 0) J J J J J (Zh J Xi J ⟨J, J⟩) ?_))))
 refine Yc 9 (some 0) (i := 1) J J J J J (Zp (i := 0) J Xb J J J ⟨J, J⟩) ?_
 refine Yc 10 (none) (i := 2) J J J J J (Zd J J ⟨J, J⟩) ?_
 refine Yc 12 (none) (i := 4) J J J J J (Zh J Wz J ⟨J, J⟩) ?_
 refine Yc 13 (some 0) (i := 5) J J J J J (Zp (i := 0) J Yz J J J ⟨J, J⟩) ?_
 refine Xo 2 (i := 3) J J J J J (Yi (xs := [.tmp 10]) (i := 0) J J J (H3) by1 ⟨_, J, ?_⟩)
 refine Yc 14 (none) (i := 6) J J J J J (Yo (ns := [0, 1, 2]) (xs := [.tmp 9, .tmp 11, .tmp 13]) J tz_112 J tfl_112 J J J J ⟨J, J⟩) ?_
 refine Xo 1 (i := 7) J J J J J (Zr (cs' := [_, _, _, _, _, _, _, _, _, _, _, _, _]) (i := 0) J ts_112 J J J J J (Uk J) J ⟨_, J, ?_⟩)
 show AGo _ _ _ _ _ _ _
 exact Zb (Ya (Ym (i := 1) J J J ta_112 J (Ue _) (Ub _ (Ub _ (Ud J))) ⟨J, J⟩))
set_option maxHeartbeats 4000000 in
set_option maxRecDepth 100000 in
theorem lambda_c (b : Nat) (L : List Tok) (hL : L.length ≤ 100000) (n : Nat) (E : PS → Ex × PS) (HE : ExC b L n E) : ∀ (f : Nat) (p : PS) (a : Int), POk L n p → L.length - p.at_ < f → MCall Tryz.prog 123 [.ptr b 0, .val (.int .i64 a)] (.loc b (psC L p)) (.agg (lambdaG L E f p a).1.cells) (.loc b (psC L (lambdaG L E f p a).2))
 | 0, p, a, k, h => by omega
 | f + 1, p, a, k, h => by
  have H1 := take_c b L hL _ k.1 1 kE
  have k1 := (Yp (kind := 1) (s := kE) (by decide) k).ok k
  have hp1 := take_prog (L := L) (p := p) (kind := 1) (s := kE) (by decide)
  obtain ⟨r, hr⟩ : ∃ r, lambdaG L E (f + 1) p a = r := ⟨_, rfl⟩
  rw [hr]
  rw [lambdaG] at hr
  obtain ⟨⟨⟨tk, tt, tn, ta⟩, p1⟩, e1⟩ : ∃ r, takeP L p 1 kE = r := ⟨_, rfl⟩
  rw [e1] at H1 k1 hr hp1
  simp only [Tok.av] at H1 k1 hr hp1
  have HN := next_c b L p1
  obtain ⟨⟨qk, qt, qn, qa⟩, e4⟩ : ∃ r, nxt L p1 = r := ⟨_, rfl⟩
  have hn1 := nxt_ok (L := L) (p := p1)
  rw [e4] at HN hr hn1
  simp only [Tok.av] at HN hr hn1
  have H2 := take_c b L hL p1 k1.1 7 kArrow
  have k2 := (Yp (kind := 7) (s := kArrow) (by decide) k1).ok k1
  have H3 := HE _ k2
  have IH : qk = 1 → MCall Tryz.prog 123 [.ptr b 0, .val (.int .i64 qa)] (.loc b (psC L p1)) (.agg (lambdaG L E f p1 qa).1.cells) (.loc b (psC L (lambdaG L E f p1 qa).2)) := fun q => by
   have h1 := hp1 (hn1 (by omega))
   have h2 : p1 = stepP p := by have := h1.1; simp only [Prod.mk.injEq] at this; exact this.2
   refine lambda_c b L hL n E HE f p1 qa k1 ?_
   have h3 := h1.2.2
   rw [h2]
   show L.length - (p.at_ + 1) < f
   omega
  obtain ⟨⟨⟨yk, ys, yn, ⟨ytk, yts, ytn, ytl⟩, yks, yal, ybs, yp⟩, p4⟩, e5⟩ : ∃ r, lambdaG L E f p1 qa = r := ⟨_, rfl⟩
  rw [e5] at IH hr
  obtain ⟨⟨⟨xk, xs, xn, ⟨xtk, xts, xtn, xtl⟩, xks, xal, xbs, xp⟩, p3⟩, e3⟩ : ∃ r, E (takeP L p1 7 kArrow).2 = r := ⟨_, rfl⟩
  rw [e3] at H3 hr
  simp only [Ex.cells, Ty.cells, List.cons_append, List.nil_append] at IH H3 hr
  clear hp1 hn1
  refine Zv Tryz.func123 J (by kernel_rfl) J (Uk J) ?_
  refine Ye (Zg (Zc (Za 4 J J J (Zy (cs' := [_, _, _, _, _, _, _, _, _, _, _]) J Wh J J ?_)))); intro b4
  refine Vx (Zb (Zg (Zc (Za 7 J J J (Zd J J (Za 8 J J J (Yi (xs := [.tmp 7, .const (.int .i64 1), .const (.string ⟨#[]⟩)]) (i := 1) J J J (H1) by1 ?_)))))))
  refine Za 5 J J J (Zy (cs' := [_, _, _, _]) J Wq J J ?_); intro b5
  refine Zt J J (Zr (cs' := [_, _, _, _]) (i := 0) J Xk J J J J J (Uk J) J (Vx (Zb (Zg (Zc (Za 9 J J J (Zh J Xi J (Za 10 J J J (Zp (i := 0) J Xb J J J (Za 11 J J J (Zd J J (Za 12 J J J (Yo (ns := [0, 1, 7]) (xs := [.const (.int .i64 6), .tmp 10, .tmp 11]) J Wh J tfl_110 J J J J ?_)))))))))))))
  refine Za 6 J J J (Zy (cs' := [_, _, _, _, _, _, _, _, _, _, _]) J Wh J J ?_); intro b6
  refine Zt J J (Zr (cs' := [_, _, _, _, _, _, _, _, _, _, _]) (i := 0) J Wt J J J J J (Uk J) J (Vx (Zb (Zg (Zg (Zc (Za 13 J J J (Zd J J (Za 14 J J J (Ww (xs := [.tmp 13]) [3] J J J (HN) by1 ?_))))))))))
  refine Za 15 J J J (Vd (ft := 3) (fo := 0) J (by kernel_rfl) Yz J J ?_)
  refine Za 16 J J J (Yk J J J ?_); intro c16 h16
  refine Vx (Zb ?_)
  rcases Zi h16 with ⟨rfl, g16⟩ | ⟨rfl, g16⟩
  ·refine Zq J (Zw (Zb (Zg (Zc (Za 28 J J J (Zd J J (Za 29 J J J (Yi (xs := [.tmp 28, .const (.int .i64 7), .const (.string ⟨#[45, 62]⟩)]) (i := 3) J J J (H2) by1 ?_))))))))
   refine Vx (Zb (Zg (Wc [0, 1, 2, 3, 4, 5, 6, 7] [3, 5, 7] [[], [0], [], [2], [2, 3], [0, 1, 2, 3, 4], [0, 1, 2, 3, 4, 5], [0, 1, 2, 3, 4, 5, 6]] Wi J (Yc 30 (none) (i := 0) J J J J J (Zh J tf_110_4 J ⟨J, J⟩) ?_))))
   refine Yc 31 (some 0) (i := 1) J J J J J (Zp (i := 0) J ta_107 J J J ⟨J, J⟩) ?_
   refine Yc 32 (none) (i := 2) J J J J J (Zd J J ⟨J, J⟩) ?_
   refine Xo 3 (i := 3) J J J J J (Yi (xs := [.tmp 32]) (i := 0) J J J (H3) by1 ⟨_, J, ?_⟩)
   refine Yc 34 (none) (i := 4) J J J J J (Yh (xs := [.tmp 33]) el_107 J J J J J J (Uk J) ⟨J, J⟩) ?_
   refine EOps.nw (i := 5) J J J (op_append_nil el_107 J J J (.seq _ _) by6 (fun u35 => ⟨_, J, ?_⟩))
   refine Yc 36 (none) (i := 6) J J J J J (Zh J tf_110_4 J ⟨J, J⟩) ?_
   refine Xo 0 (i := 7) J J J J J (Zr (cs' := [_, _, _, _, _, _, _, _, _, _, _]) (i := 0) J ts_107 J J J J J (Uk J) J ⟨_, J, ?_⟩)
   show AGo _ _ _ _ _ _ _
   refine Zb (Zg (Zc (Za 37 J J J (Zx (cs' := [_, _, _, _, _, _, _, _, _, _, _]) (i := 0) J Wj J J J J (Zt J J (Zr (cs' := [_, _, _, _, _, _, _, _, _, _, _]) (i := 2) J Wt J J J J J (Uk J) J (Vx (Zb (Ya ?_)))))))))
   rw [if_neg g16] at hr; subst hr; exact Ym (i := 2) rfl rfl rfl Wj rfl by0 (Ub _ (Ub _ (Ub _ (Ua _ (Vz _))))) ⟨rfl, rfl⟩
  ·refine Zu J (Zg (Wc [0, 1, 2, 3, 4, 5, 6, 7, 8, 9, 10] [6, 8, 10] [[], [0], [], [], [3], [3, 4], [2, 3, 4, 5], [2, 3, 4, 5, 6], [0, 1, 2, 3, 4, 5, 6, 7], [0, 1, 2, 3, 4, 5, 6, 7, 8], [0, 1, 2, 3, 4, 5, 6, 7, 8, 9]] Wi J (Yc 17 (none) (i := 0) J J J J J (Zh J tf_110_4 J ⟨J, J⟩) ?_)))
   refine Yc 18 (some 0) (i := 1) J J J J J (Zp (i := 0) J ta_107 J J J ⟨J, J⟩) ?_
   refine Yc 19 (none) (i := 2) J J J J J (Zd J J ⟨J, J⟩) ?_
   refine Yc 20 (none) (i := 3) J J J J J (Zd J J ⟨J, J⟩) ?_
   refine Yc 21 (some 3) (i := 4) J J J J J (Ww (xs := [.tmp 20]) [0] J J J (HN) by1 ⟨J, J⟩) ?_
   refine Yc 22 (none) (i := 5) J J J J J (Vd (ft := 3) (fo := 3) J (by kernel_rfl) Yz J J ⟨J, J⟩) ?_
   refine Xo 3 (i := 6) J J J J J (Yi (xs := [.tmp 19, .tmp 22]) (i := 0) J J J (IH g16) by1 ⟨_, J, ?_⟩)
   refine Yc 24 (none) (i := 7) J J J J J (Yh (xs := [.tmp 23]) el_107 J J J J J J (Uk J) ⟨J, J⟩) ?_
   refine EOps.nw (i := 8) J J J (op_append_nil el_107 J J J (.seq _ _) by6 (fun u25 => ⟨_, J, ?_⟩))
   refine Yc 26 (none) (i := 9) J J J J J (Zh J tf_110_4 J ⟨J, J⟩) ?_
   refine Xo 0 (i := 10) J J J J J (Zr (cs' := [_, _, _, _, _, _, _, _, _, _, _]) (i := 0) J ts_107 J J J J J (Uk J) J ⟨_, J, ?_⟩)
   show AGo _ _ _ _ _ _ _
   refine Zb (Zg (Zc (Za 27 J J J (Zx (cs' := [_, _, _, _, _, _, _, _, _, _, _]) (i := 0) J Wj J J J J (Zt J J (Zr (cs' := [_, _, _, _, _, _, _, _, _, _, _]) (i := 2) J Wt J J J J J (Uk J) J (Vx (Zb (Ya ?_)))))))))
   rw [if_pos g16] at hr; subst hr; exact Ym (i := 2) rfl rfl rfl Wj rfl by0 (Ub _ (Ub _ (Ub _ (Ua _ (Vz _))))) ⟨rfl, rfl⟩
set_option maxHeartbeats 4000000 in
set_option maxRecDepth 100000 in
theorem atom_lit (b : Nat) (L : List Tok) (hL : L.length ≤ 100000) (n : Nat) (E : PS → Ex × PS) (p : PS) (k : POk L n p) (h : (nxt L p).k = 1 ∨ (nxt L p).k = 2 ∨ (nxt L p).k = 3 ∨ (nxt L p).k = 4) : MCall Tryz.prog 124 [.ptr b 0] (.loc b (psC L p)) (.agg (atomG L E p).1.cells) (.loc b (psC L (atomG L E p).2)) := by
 have HN := next_c b L p
 have hp := k.1
 have hlt : p.at_ < L.length := (Vw (by omega)).2
 obtain ⟨r, hr⟩ : ∃ r, atomG L E p = r := ⟨_, rfl⟩
 rw [hr]
 unfold atomG at hr
 obtain ⟨⟨tk, tt, tn, ta⟩, ht⟩ : ∃ t, nxt L p = t := ⟨_, rfl⟩
 rw [ht] at HN hr h
 simp only [Tok.av] at HN hr h
 refine Zv Tryz.func124 J (by kernel_rfl) J (Uk J) ?_
 refine Ye (Zg (Zc (Za 2 J J J (Zy (cs' := [_, _, _, _, _, _, _, _, _, _, _]) J Wh J J ?_)))); intro b2
 refine Vx (Zb (Zg (Zc (Za 9 J J J (Zd J J (Za 10 J J J (Ww (xs := [.tmp 9]) [1] J J J (HN) by1 ?_)))))))
 refine Za 3 J J J (Zy (cs' := [_, _, _, _]) J Wq J J ?_); intro b3
 refine Zt J J (Zr (cs' := [_, _, _, _]) (i := 0) J Xk J J J J J (Uk J) J (Vx (Zb (Zg (Zc (Za 11 J J J (Zh J Wz J (Za 12 J J J (Zp (i := 0) J Yz J J J (Za 13 J J J (Yo (ns := [7]) (xs := [.tmp 12]) J Wh J tfl_110 J J J J (Za 4 J J J (Zy (cs' := [_, _, _, _, _, _, _, _, _, _, _]) J Wh J J ?_))))))))))))); intro b4
 refine Zt J J (Zr (cs' := [_, _, _, _, _, _, _, _, _, _, _]) (i := 0) J Wt J J J J J (Uk J) J (Vx (Zb (Zg ?_))))
 apply c_joink [1, 9, 10, 11, 12, 13, 14, 15, 16, 17, 18, 19, 20, 21, 22, 23, 24, 25, 26, 27, 28, 29, 30, 31, 32, 33, 34, 35, 36, 37, 38, 39, 40, 41, 42, 43, 44, 45, 68, 81, 94, 97, 128] (σ := Int × ByteArray × Int) (fun zz => match zz with | (kk, ss, nn) => []) (fun zz => match zz with | (kk, ss, nn) => [.loc b4 [.val (.int .i64 kk), .val (.string ss), .val (.int .i64 nn), .val (.int .i64 0), .val (.string kE), .val (.int .i64 0), .val (.slice none 0 0), .val (.slice none 0 0), .val (.slice none 0 0), .val (.slice none 0 0), .val (.int .i64 ta)], .loc b3 (Tok.mk tk tt tn ta).av, .loc b2 zEx, .loc b (psC L p)]) (fun zz => match zz with | (kk, ss, nn) => 0 < kk ∧ (Ex.mk kk ss nn ty0 [] [] [] ta, stepP p) = r)
 ·repeat' (first | exact Un | apply Ul rfl | apply Um rfl)
 ·skip
  refine Zz (Zg (Zc (Za 15 J J J (Zh J Xg J (Za 16 J J J (Zp (i := 1) J Yz J J J (Za 17 J J J (Yk J J J ?_)))))))); intro c17 h17
  refine Za 14 J J J (Zf J J (Vx (Zb ?_)))
  rcases Zi h17 with ⟨rfl, g17⟩ | ⟨rfl, g17⟩
  ·refine Zq J (Zg (Zc (Za 23 J J J (Zh J Xg J (Za 24 J J J (Zp (i := 1) J Yz J J J (Za 25 J J J (Yk J J J ?_)))))))); intro c25 h25
   refine Za 22 J J J (Zf J J (Vx (Zb ?_)))
   rcases Zi h25 with ⟨rfl, g25⟩ | ⟨rfl, g25⟩
   ·refine Zq J (Zg (Zc (Za 31 J J J (Zh J Xg J (Za 32 J J J (Zp (i := 1) J Yz J J J (Za 33 J J J (Yk J J J ?_)))))))); intro c33 h33
    refine Za 30 J J J (Zf J J (Vx (Zb ?_)))
    rcases Zi h33 with ⟨rfl, g33⟩ | ⟨rfl, g33⟩
    ·refine Zq J (Zg (Zc (Za 39 J J J (Zh J Xg J (Za 40 J J J (Zp (i := 1) J Yz J J J (Za 41 J J J (Yk J J J ?_)))))))); intro c41 h41
     refine Za 38 J J J (Zf J J (Vx (Zb ?_)))
     rcases Zi h41 with ⟨rfl, g41⟩ | ⟨rfl, g41⟩
     ·omega
     ·refine Zu J (Zg (Zc (Za 42 J J J (Zh J tf_110_0 J (Zt J J (Zr (cs' := [_, _, _, _, _, _, _, _, _, _, _]) (i := 0) J Ws J J J J J (Uk J) J (Vx (Zb (Zc (Za 43 J J J (Zh J Xi J (Za 44 J J J (Zp (i := 1) J Xb J J J ?_)))))))))))))
      refine Za 45 J J J (Zh J tf_110_1 J (Zt J J (Zr (cs' := [_, _, _, _, _, _, _, _, _, _, _]) (i := 0) J ts_9 J J J J J (Uk J) J (Vx (Yw (Xc ?_))))))
      first
      | (rw [if_pos g17] at hr; exact ⟨(3, tt, 0), ⟨by decide, hr⟩, by4, Ud rfl⟩)
      | (rw [if_neg g17, if_pos g25] at hr; exact ⟨(4, tt, 0), ⟨by decide, hr⟩, by4, Ud rfl⟩)
      | (rw [if_neg g17, if_neg g25, if_pos g33] at hr; exact ⟨(1, kE, tn), ⟨by decide, hr⟩, by4, Ud rfl⟩)
      | (rw [if_neg g17, if_neg g25, if_neg g33, if_pos g41] at hr; exact ⟨(2, tt, 0), ⟨by decide, hr⟩, by4, Ud rfl⟩)
    ·refine Zu J (Zg (Zc (Za 34 J J J (Zh J tf_110_0 J (Zt J J (Zr (cs' := [_, _, _, _, _, _, _, _, _, _, _]) (i := 0) J Ws J J J J J (Uk J) J (Vx (Zb (Zc (Za 35 J J J (Zh J tf_97_2 J (Za 36 J J J (Zp (i := 1) J ta_2 J J J ?_)))))))))))))
     refine Za 37 J J J (Zh J tf_110_2 J (Zt J J (Zr (cs' := [_, _, _, _, _, _, _, _, _, _, _]) (i := 0) J ts_2 J J J J J (Uk J) J (Vx (Yw (Xc ?_))))))
     first
     | (rw [if_pos g17] at hr; exact ⟨(3, tt, 0), ⟨by decide, hr⟩, by4, Ud rfl⟩)
     | (rw [if_neg g17, if_pos g25] at hr; exact ⟨(4, tt, 0), ⟨by decide, hr⟩, by4, Ud rfl⟩)
     | (rw [if_neg g17, if_neg g25, if_pos g33] at hr; exact ⟨(1, kE, tn), ⟨by decide, hr⟩, by4, Ud rfl⟩)
     | (rw [if_neg g17, if_neg g25, if_neg g33, if_pos g41] at hr; exact ⟨(2, tt, 0), ⟨by decide, hr⟩, by4, Ud rfl⟩)
   ·refine Zu J (Zg (Zc (Za 26 J J J (Zh J tf_110_0 J (Zt J J (Zr (cs' := [_, _, _, _, _, _, _, _, _, _, _]) (i := 0) J Ws J J J J J (Uk J) J (Vx (Zb (Zc (Za 27 J J J (Zh J Xi J (Za 28 J J J (Zp (i := 1) J Xb J J J ?_)))))))))))))
    refine Za 29 J J J (Zh J tf_110_1 J (Zt J J (Zr (cs' := [_, _, _, _, _, _, _, _, _, _, _]) (i := 0) J ts_9 J J J J J (Uk J) J (Vx (Yw (Xc ?_))))))
    first
    | (rw [if_pos g17] at hr; exact ⟨(3, tt, 0), ⟨by decide, hr⟩, by4, Ud rfl⟩)
    | (rw [if_neg g17, if_pos g25] at hr; exact ⟨(4, tt, 0), ⟨by decide, hr⟩, by4, Ud rfl⟩)
    | (rw [if_neg g17, if_neg g25, if_pos g33] at hr; exact ⟨(1, kE, tn), ⟨by decide, hr⟩, by4, Ud rfl⟩)
    | (rw [if_neg g17, if_neg g25, if_neg g33, if_pos g41] at hr; exact ⟨(2, tt, 0), ⟨by decide, hr⟩, by4, Ud rfl⟩)
  ·refine Zu J (Zg (Zc (Za 18 J J J (Zh J tf_110_0 J (Zt J J (Zr (cs' := [_, _, _, _, _, _, _, _, _, _, _]) (i := 0) J Ws J J J J J (Uk J) J (Vx (Zb (Zc (Za 19 J J J (Zh J Xi J (Za 20 J J J (Zp (i := 1) J Xb J J J ?_)))))))))))))
   refine Za 21 J J J (Zh J tf_110_1 J (Zt J J (Zr (cs' := [_, _, _, _, _, _, _, _, _, _, _]) (i := 0) J ts_9 J J J J J (Uk J) J (Vx (Yw (Xc ?_))))))
   first
   | (rw [if_pos g17] at hr; exact ⟨(3, tt, 0), ⟨by decide, hr⟩, by4, Ud rfl⟩)
   | (rw [if_neg g17, if_pos g25] at hr; exact ⟨(4, tt, 0), ⟨by decide, hr⟩, by4, Ud rfl⟩)
   | (rw [if_neg g17, if_neg g25, if_pos g33] at hr; exact ⟨(1, kE, tn), ⟨by decide, hr⟩, by4, Ud rfl⟩)
   | (rw [if_neg g17, if_neg g25, if_neg g33, if_pos g41] at hr; exact ⟨(2, tt, 0), ⟨by decide, hr⟩, by4, Ud rfl⟩)
 rintro ⟨kk, ss, nn⟩ hI
 try dsimp only [List.cons_append, List.nil_append] at hI ⊢
 refine Zb (Zg (Zg (Zc (Za 46 J J J (Zh J tf_110_0 J (Za 47 J J J (Zp (i := 0) J Yz J J J (Za 48 J J J (Vg J J J ?_))))))))); intro c48 h48
 refine Vx (Zb ?_)
 rcases Zi h48 with ⟨rfl, g48⟩ | ⟨rfl, g48⟩
 ·omega
 ·refine Zu J (Zg (Zc (Za 49 J J J (Zd J J (Za 50 J J J (Yl J J (Za 51 J J J (Zh J tf_95_1 J (Za 52 J J J (Zp (i := 3) J Yz J J J (Za 53 J J J (Yx J J J (Uo _ (by omega)) ?_))))))))))))
  refine Za 54 J J J (Yl J J (Za 55 J J J (Zh J tf_95_1 J (Zt J J (Zr (i := 3) J Ws J J J J J (Uk J) J (Vx (Zb (Zg (Zc (Za 56 J J J (Zx (cs' := [_, _, _, _, _, _, _, _, _, _, _]) (i := 0) J Wj J J J J (Zt J J (Zr (cs' := [_, _, _, _, _, _, _, _, _, _, _]) (i := 2) J Wt J J J J J (Uk J) J ?_)))))))))))))
  refine Vx (Zb (Ya ?_))
  have h2 := hI.2; subst h2; exact Ym (i := 2) rfl rfl rfl Wj rfl by0 (Ub _ (Ub _ (Ub _ (Ud rfl)))) ⟨rfl, rfl⟩
theorem may_yes {b : Nat} {L : List Tok} (hL : L.length ≤ 100000) {p : PS} {s : ByteArray} (h : isP L p s = true) : MCall Tryz.prog 51 [.ptr b 0, .val (.string s)] (.loc b (psC L p)) (.val (.bool true)) (.loc b (psC L (stepP p))) :=
 (may_c b L hL p s).mono (by
  rintro v M' (⟨_, rfl, rfl⟩ | ⟨q, _, _⟩)
  ·exact ⟨J, J⟩
  ·exact absurd h q)
theorem may_no {b : Nat} {L : List Tok} (hL : L.length ≤ 100000) {p : PS} {s : ByteArray} (h : ¬ isP L p s = true) : MCall Tryz.prog 51 [.ptr b 0, .val (.string s)] (.loc b (psC L p)) (.val (.bool false)) (.loc b (psC L p)) :=
 (may_c b L hL p s).mono (by
  rintro v M' (⟨q, _, _⟩ | ⟨_, rfl, rfl⟩)
  ·exact absurd q h
  ·exact ⟨J, J⟩)
theorem altsL_err {L : List Tok} {E : PS → Ex × PS} {f : Nat} {p : PS} {acc : List Al} (h : p.e ≠ 0) : altsL L E f p acc = (acc, p) := by
 cases f with
 | zero => rfl
 | succ f => rw [altsL, if_pos h]
theorem Al.cellss_app' (a b : List Al) : Al.cellss (a ++ b) = Al.cellss a ++ Al.cellss b := by simp [Al.cellss_map]
theorem Ex.cellss_app' (a b : List Ex) : Ex.cellss (a ++ b) = Ex.cellss a ++ Ex.cellss b := by simp [Ex.cellss_map]
theorem Bi.cellss_app' (a b : List Bi) : Bi.cellss (a ++ b) = Bi.cellss a ++ Bi.cellss b := by simp [Bi.cellss_map]
set_option maxHeartbeats 4000000 in
set_option maxRecDepth 100000 in
theorem atom_case (b : Nat) (L : List Tok) (hL : L.length ≤ 100000) (n : Nat) (E : PS → Ex × PS) (HE : ExC b L n E) (HA : ∀ q, POk L n q → Adv L q (E q).2) (p : PS) (k : POk L n p) (h1 : (nxt L p).k ≠ 1) (h2 : (nxt L p).k ≠ 2) (h3 : (nxt L p).k ≠ 3) (h4 : (nxt L p).k ≠ 4) (hc : isP L p kCase = true) : MCall Tryz.prog 124 [.ptr b 0] (.loc b (psC L p)) (.agg (caseG L E (nxt L p).a (stepP p)).1.cells) (.loc b (psC L (caseG L E (nxt L p).a (stepP p)).2)) := by
 have HN := next_c b L p
 have k1 := (Xr k hc).ok k
 have H1 := HE _ k1
 have k2 := (HA _ k1).ok k1
 have H2 := take_c b L hL _ k2.1 6 kOf
 have k3 := (Yp (kind := 6) (s := kOf) (by decide) k2).ok k2
 have k4 := (altsL_adv HA (L.length + 1) _ [] k3).ok k3
 have H4 := take_c b L hL _ k4.1 6 kEnd
 obtain ⟨r, hr⟩ : ∃ r, caseG L E (nxt L p).a (stepP p) = r := ⟨_, rfl⟩
 rw [hr]
 unfold caseG at hr
 simp only [] at hr
 obtain ⟨⟨tk, tt, tn, ta⟩, ht⟩ : ∃ t, nxt L p = t := ⟨_, rfl⟩
 rw [ht] at HN hr h1 h2 h3 h4
 simp only [Tok.av] at HN hr h1 h2 h3 h4
 obtain ⟨⟨⟨xk, xs, xn, ⟨xtk, xts, xtn, xtl⟩, xks, xal, xbs, xp⟩, p2⟩, e2⟩ : ∃ r, E (stepP p) = r := ⟨_, rfl⟩
 rw [e2] at H1 H2 H4 hr k3
 obtain ⟨⟨u3, p3⟩, e3⟩ : ∃ r, takeP L p2 6 kOf = r := ⟨_, rfl⟩
 simp only [] at H2 H4 hr k3
 rw [e3] at H2 H4 hr k3
 simp only [] at H2 H4 hr k3
 obtain ⟨⟨yl, p4⟩, e4⟩ : ∃ r, altsL L E (L.length + 1) p3 [] = r := ⟨_, rfl⟩
 rw [e4] at H4 hr
 simp only [Ex.cells, Ty.cells, List.cons_append, List.nil_append] at H1 H4 hr
 refine Zv Tryz.func124 J (by kernel_rfl) J (Uk J) ?_
 refine Ye (Zg (Zc (Za 2 J J J (Zy (cs' := [_, _, _, _, _, _, _, _, _, _, _]) J Wh J J ?_)))); intro b2
 refine Vx (Zb (Zg (Zc (Za 9 J J J (Zd J J (Za 10 J J J (Ww (xs := [.tmp 9]) [1] J J J (HN) by1 ?_)))))))
 refine Za 3 J J J (Zy (cs' := [_, _, _, _]) J Wq J J ?_); intro b3
 refine Zt J J (Zr (cs' := [_, _, _, _]) (i := 0) J Xk J J J J J (Uk J) J (Vx (Zb (Zg (Zc (Za 11 J J J (Zh J Wz J (Za 12 J J J (Zp (i := 0) J Yz J J J (Za 13 J J J (Yo (ns := [7]) (xs := [.tmp 12]) J Wh J tfl_110 J J J J (Za 4 J J J (Zy (cs' := [_, _, _, _, _, _, _, _, _, _, _]) J Wh J J ?_))))))))))))); intro b4
 refine Zt J J (Zr (cs' := [_, _, _, _, _, _, _, _, _, _, _]) (i := 0) J Wt J J J J J (Uk J) J (Vx (Zb (Zg (Zz (Zg (Zc (Za 15 J J J (Zh J Xg J (Za 16 J J J (Zp (i := 1) J Yz J J J (Za 17 J J J (Yk J J J ?_))))))))))))); intro c17 h17
 refine Za 14 J J J (Zf J J (Vx (Zb ?_)))
 rcases Zi h17 with ⟨rfl, g17⟩ | ⟨rfl, g17⟩
 ·refine Zq J (Zg (Zc (Za 23 J J J (Zh J Xg J (Za 24 J J J (Zp (i := 1) J Yz J J J (Za 25 J J J (Yk J J J ?_)))))))); intro c25 h25
  refine Za 22 J J J (Zf J J (Vx (Zb ?_)))
  rcases Zi h25 with ⟨rfl, g25⟩ | ⟨rfl, g25⟩
  ·refine Zq J (Zg (Zc (Za 31 J J J (Zh J Xg J (Za 32 J J J (Zp (i := 1) J Yz J J J (Za 33 J J J (Yk J J J ?_)))))))); intro c33 h33
   refine Za 30 J J J (Zf J J (Vx (Zb ?_)))
   rcases Zi h33 with ⟨rfl, g33⟩ | ⟨rfl, g33⟩
   ·refine Zq J (Zg (Zc (Za 39 J J J (Zh J Xg J (Za 40 J J J (Zp (i := 1) J Yz J J J (Za 41 J J J (Yk J J J ?_)))))))); intro c41 h41
    refine Za 38 J J J (Zf J J (Vx (Zb ?_)))
    rcases Zi h41 with ⟨rfl, g41⟩ | ⟨rfl, g41⟩
    ·refine Zq J (Zw (Yw (Zb (Zg (Zg (Zc (Za 46 J J J (Zh J tf_110_0 J (Za 47 J J J (Zp (i := 0) J Yz J J J (Za 48 J J J (Vg J J J ?_)))))))))))); intro c48 h48
     refine Vx (Zb ?_)
     rcases Zi h48 with ⟨rfl, g48⟩ | ⟨rfl, g48⟩
     ·refine Zq J (Zw (Zb (Zg (Zg (Zc (Za 57 J J J (Zd J J (Za 58 J J J (Yi (xs := [.tmp 57, .const (.string ⟨#[99, 97, 115, 101]⟩)]) (i := 3) J J J (may_yes hL hc) by1 ?_)))))))))
      refine Vx (Zb (Zu J (Zg (Zc (Za 59 J J J (Zh J tf_110_0 J (Zt J J (Zr (cs' := [_, _, _, _, _, _, _, _, _, _, _]) (i := 0) J Ws J J J J J (Uk J) J (Vx (Zb (Zg ?_)))))))))))
      refine Wc [0, 1, 2, 3, 4, 5, 6, 7] [3, 5, 7] [[], [0], [], [2], [2, 3], [0, 1, 2, 3, 4], [0, 1, 2, 3, 4, 5], [0, 1, 2, 3, 4, 5, 6]] Wi J (Yc 60 (none) (i := 0) J J J J J (Zh J tf_110_4 J ⟨J, J⟩) ?_)
      refine Yc 61 (some 0) (i := 1) J J J J J (Zp (i := 0) J ta_107 J J J ⟨J, J⟩) ?_
      refine Yc 62 (none) (i := 2) J J J J J (Zd J J ⟨J, J⟩) ?_
      refine Xo 3 (i := 3) J J J J J (Yi (xs := [.tmp 62]) (i := 0) J J J (H1) by1 ⟨_, J, ?_⟩)
      refine Yc 64 (none) (i := 4) J J J J J (Yh (xs := [.tmp 63]) el_107 J J J J J J (Uk J) ⟨J, J⟩) ?_
      refine EOps.nw (i := 5) J J J (op_append_nil el_107 J J J (.seq _ _) by6 (fun u65 => ⟨_, J, ?_⟩))
      refine Yc 66 (none) (i := 6) J J J J J (Zh J tf_110_4 J ⟨J, J⟩) ?_
      refine Xo 0 (i := 7) J J J J J (Zr (cs' := [_, _, _, _, _, _, _, _, _, _, _]) (i := 0) J ts_107 J J J J J (Uk J) J ⟨_, J, ?_⟩)
      show AGo _ _ _ _ _ _ _
      refine Zb (Zg (Zc (Za 67 J J J (Zd J J (Za 68 J J J (Yi (xs := [.tmp 67, .const (.int .i64 6), .const (.string ⟨#[111, 102]⟩)]) (i := 3) J J J (H2) by1 ?_))))))
      refine Vx (Zb (Zg (Zc (Za 5 J J J (Zf J J (Vx (Zb (Zg (Zz (Wg 187 16 ?_))))))))))
      apply Wm [1, 5, 6, 9, 10, 11, 12, 13, 14, 15, 16, 17, 18, 19, 20, 21, 22, 23, 24, 25, 26, 27, 28, 29, 30, 31, 32, 33, 34, 35, 36, 37, 38, 39, 40, 41, 42, 43, 44, 45, 46, 47, 48, 49, 50, 51, 52, 53, 54, 55, 56, 57, 58, 59, 60, 61, 62, 63, 64, 65, 66, 67, 68, 69, 70, 71, 72, 73, 74, 75, 76, 77, 78, 79, 80, 81, 82, 83, 84, 85, 86, 87, 88, 89, 90, 91, 92, 94, 97, 128] (σ := PS × Nat × List Al × Value × Bool) (fun zz => match zz with | (q, f, acc, u, mo) => [(5, .val (.bool mo))]) (fun zz => match zz with | (q, f, acc, u, mo) => [.loc b4 [.val (.int .i64 8), .val (.string kE), .val (.int .i64 0), .val (.int .i64 0), .val (.string kE), .val (.int .i64 0), .val (.slice none 0 0), .seq 11 (Ex.cellss [Ex.mk xk xs xn (Ty.mk xtk xts xtn xtl) xks xal xbs xp]), .own u 16 (Al.cellss acc), .val (.slice none 0 0), .val (.int .i64 ta)], .loc b3 (Tok.mk tk tt tn ta).av, .loc b2 zEx, .loc b (psC L q), .own 187 16 u]) (fun zz => match zz with | (q, f, acc, u, mo) => POk L n q ∧ L.length - q.at_ < f ∧ (mo = true → acc.length ≤ q.at_) ∧ (if mo = true then altsL L E f q acc else (acc, q)) = (yl, p4)) (fun zz => match zz with | (q, f, acc, u, mo) => 2 * f + (if mo = true then 1 else 0)) ((p3, L.length + 1, [], .slice none 0 0, true))
      ·repeat' (first | exact Un | apply Ul rfl | apply Um rfl)
      ·exact ⟨k3, by omega, fun _ => Nat.zero_le _, e4⟩
      ·exact by4
      ·exact (Uc _ (Ug (Ue _) (Ug (Ue _) (Ug (Ue _) (Ug (Ue _) (Ug (Ue _) (Ug (Ue _) (Ug (Ue _) (Ug (Le.own_seq J) (Ug (Le.nilOwn 16) (Uf _)))))))))) (Ua _ (Ua _ (Ua _ (Ub _ (Vy _))))))
      rintro ⟨q, f, acc, u, mo⟩ hI
      try dsimp only [List.cons_append, List.nil_append] at hI ⊢
      obtain ⟨i1, i2, i3, hu⟩ := hI
      have hq1 := i1.1
      refine Zg (Zg (Xm 76 (mo = true ∧ q.e = 0) ?_ _ _ J ?_))
      ·skip
       refine Za 69 J J J (Zd J J (Za 70 J J J (Zd J J ?_)))
       have h70 : (mo = true ↔ mo = true) := Iff.rfl
       rcases Zi h70 with ⟨rfl, g70⟩ | ⟨rfl, g70⟩
       ·skip
        refine Zl 71 J J J J J (Zl 72 J J J J J (Zl 73 J J J J J (Zl 74 J J J J J (Zl 75 J J J J J (Za 76 J J J (Zm J J J ?_))))))
        refine Vx (Ui J ?_ by5 by3)
        simp_all; done
       ·skip
        refine Zo 71 J J J J J (Zd J J (Zo 72 J J J J J (Yl J J (Zo 73 J J J J J (Zh J Vs J (Zo 74 J J J J J (Zp (i := 3) J Yz J J J (Zo 75 J J J J J (Yk J J J ?_))))))))); intro c75 h75
        refine Za 76 J J J (Zm J J J (Vx (Ui J ?_ by5 by3)))
        simp_all; done
      intro c76 h76
      refine Zb ?_
      rcases Zi h76 with ⟨rfl, g76⟩ | ⟨rfl, g76⟩
      ·refine Zq J (Xd (Xf (Xz (Xe (Zb (Zg ?_))))))
       have hu2 : (acc, q) = (yl, p4) := by
        cases mo with
        | false => exact hu
        | true => rw [if_pos rfl, altsL_err (fun e => g76 ⟨rfl, e⟩)] at hu; exact hu
       simp only [Prod.mk.injEq] at hu2
       obtain ⟨rfl, rfl⟩ := hu2
       refine Zc (Za 93 J J J (Zd J J (Za 94 J J J (Yi (xs := [.tmp 93, .const (.int .i64 6), .const (.string ⟨#[101, 110, 100]⟩)]) (i := 3) J J J (H4) by1 ?_))))
       refine Vx (Zb (Zg (Zc (Za 95 J J J (Zx (cs' := [_, _, _, _, _, _, _, _, _, _, _]) (i := 0) J Wj J J J J (Zt J J (Zr (cs' := [_, _, _, _, _, _, _, _, _, _, _]) (i := 2) J Wt J J J J J (Uk J) J (Vx (Zb (Ya ?_))))))))))
       subst hr; exact Ym (i := 2) rfl rfl rfl Wj rfl by0 (Ub _ (Ub _ (Ub _ (Ua _ (Vz _))))) ⟨rfl, rfl⟩
      ·refine Zu J (Zw (Zb (Zz (Zg ?_))))
       obtain ⟨rfl, hq0⟩ := g76
       have i3 := i3 rfl
       have hle : (Al.cellss acc).length ≤ 200000 := by rw [Al.cellss_len]; omega
       rw [if_pos rfl] at hu
       obtain ⟨f, rfl⟩ : ∃ f', f = f' + 1 := ⟨f - 1, by omega⟩
       rw [altsL, if_neg (by rw [hq0]; simp)] at hu
       have HP := patP_c b L hL n q i1
       have l1 := (patP_adv i1).ok i1
       have b1 := (patP_adv i1).1
       have HQ := take_c b L hL _ l1.1 7 kArrow
       have l2 := (Yp (kind := 7) (s := kArrow) (by decide) l1).ok l1
       have b2 := (Yp (kind := 7) (s := kArrow) (by decide) l1).1
       have HR := HE _ l2
       have l3 := (HA _ l2).ok l2
       have b3 := (HA _ l2).1
       obtain ⟨z, hz⟩ : ∃ z, altG L E q = z := ⟨_, rfl⟩
       rw [hz] at hu
       unfold altG at hz
       obtain ⟨⟨⟨vk, vs, vn, vl, vp⟩, q1⟩, f1⟩ : ∃ r, patP L q = r := ⟨_, rfl⟩
       rw [f1] at HP HQ HR hz l2 l3 b1 b2 b3
       obtain ⟨⟨u5, q2⟩, f2⟩ : ∃ r, takeP L q1 7 kArrow = r := ⟨_, rfl⟩
       simp only [] at HQ HR hz l2 l3 b1 b2 b3
       rw [f2] at HQ HR hz l2 l3 b2 b3
       simp only [] at HQ HR hz l2 l3 b1 b2 b3
       obtain ⟨⟨⟨wk, ws, wn, ⟨wtk, wts, wtn, wtl⟩, wks, wal, wbs, wp⟩, q3⟩, f3⟩ : ∃ r, E q2 = r := ⟨_, rfl⟩
       rw [f3] at HR hz l3 b3
       simp only [Pa.cells, Ex.cells, Ty.cells, List.cons_append, List.nil_append] at HP HR hz l3 b3
       subst hz
       simp only [] at hu
       have l3a := l3.1
       refine Zc (Za 77 J J J (Zd J J (Za 78 J J J (Yi (xs := [.tmp 77]) (i := 3) J J J (HP) by1 ?_))))
       refine Za 79 J J J (Yo (ns := [0]) (xs := [.tmp 78]) J tz_187 J tfl_187 J J J J (Za 6 J J J (Zy (cs' := [_, _, _, _, _, _, _, _, _, _, _, _, _, _, _, _]) J tz_187 J J ?_))); intro b6
       refine Zt J J (Zr (cs' := [_, _, _, _, _, _, _, _, _, _, _, _, _, _, _, _]) (i := 0) J ts_187 J J J J J (Uk J) J (Vx (Zb (Zg (Zc (Za 80 J J J (Zd J J (Za 81 J J J (Yi (xs := [.tmp 80, .const (.int .i64 7), .const (.string ⟨#[45, 62]⟩)]) (i := 4) J J J (HQ) by1 ?_)))))))))
       refine Vx (Zb (Zg (Zc (Za 82 J J J (Zd J J (Za 83 J J J (Yi (xs := [.tmp 82]) (i := 4) J J J (HR) by1 ?_)))))))
       refine Za 84 J J J (Zh J tf_187_1 J (Zt J J (Zr (cs' := [_, _, _, _, _, _, _, _, _, _, _, _, _, _, _, _]) (i := 0) J Wt J J J J J (Uk J) J (Vx (Zb (Zg (Zc (Za 85 J J J (Zh J tf_110_5 J (Za 86 J J J (Zp (i := 1) J ta_108 J J J (Za 87 J J J (Zx (cs' := [_, _, _, _, _, _, _, _, _, _, _, _, _, _, _, _]) (i := 0) J ta_187 J J J J ?_)))))))))))))
       refine Za 88 J J J (Yh (xs := [.tmp 87]) el_108 J J J J J J (Uk J) (Za 89 J J J (Xj (i := 5) el_108 J J J J (.seq _ _) by6 ?_)))
       intro u89
       refine Za 90 J J J (Zh J tf_110_5 J (Zt J J (Zr (cs' := [_, _, _, _, _, _, _, _, _, _, _]) (i := 1) J ts_108 J J J J J (Uk J) J (Vx (Zb (Zc (Za 91 J J J (Zd J J (Za 92 J J J (op_mayc (xs := [.tmp 91, .const (.string ⟨#[124]⟩)]) (i := 4) J J J (may_c b L hL q3 kBar) by1 ?_ ?_))))))))))
       ·intro g92
        refine Za 5 J J J (Zf J J (Vx (Yw (Xc ?_))))
        first
        | (rw [if_pos g92] at hu; have l4 := (Xr l3 g92).ok l3; have l5 := (is_lt g92).2; exact ⟨(stepP q3, f, acc ++ [Al.mk (Pa.mk vk vs vn vl vp) (Ex.mk wk ws wn (Ty.mk wtk wts wtn wtl) wks wal wbs wp)], u89, true), ⟨l4, (by show L.length - (q3.at_ + 1) < f; omega), (fun _ => by show (acc ++ _).length ≤ q3.at_ + 1; rw [List.length_append]; simp; omega), hu⟩, (by show 2 * f + 1 < 2 * (f + 1) + 1; omega), Uh rfl (Ue _) by4, (Ub _ (Uc _ (Ug (Ue _) (Ug (Ue _) (Ug (Ue _) (Ug (Ue _) (Ug (Ue _) (Ug (Ue _) (Ug (Ue _) (Ug (Ue _) (Ug (Uj (by rw [Al.cellss_app']; rfl)) (Uf _)))))))))) (Ua _ (Ua _ (Ud rfl)))))⟩)
        | (rw [if_neg g92] at hu; exact ⟨(q3, f + 1, acc ++ [Al.mk (Pa.mk vk vs vn vl vp) (Ex.mk wk ws wn (Ty.mk wtk wts wtn wtl) wks wal wbs wp)], u89, false), ⟨l3, (by show L.length - q3.at_ < f + 1; omega), (fun h => by cases h), hu⟩, (by show 2 * (f + 1) + 0 < 2 * (f + 1) + 1; omega), Uh rfl (Ue _) by4, (Ub _ (Uc _ (Ug (Ue _) (Ug (Ue _) (Ug (Ue _) (Ug (Ue _) (Ug (Ue _) (Ug (Ue _) (Ug (Ue _) (Ug (Ue _) (Ug (Uj (by rw [Al.cellss_app']; rfl)) (Uf _)))))))))) (Ua _ (Ua _ (Ud rfl)))))⟩)
       ·intro g92
        refine Za 5 J J J (Zf J J (Vx (Yw (Xc ?_))))
        first
        | (rw [if_pos g92] at hu; have l4 := (Xr l3 g92).ok l3; have l5 := (is_lt g92).2; exact ⟨(stepP q3, f, acc ++ [Al.mk (Pa.mk vk vs vn vl vp) (Ex.mk wk ws wn (Ty.mk wtk wts wtn wtl) wks wal wbs wp)], u89, true), ⟨l4, (by show L.length - (q3.at_ + 1) < f; omega), (fun _ => by show (acc ++ _).length ≤ q3.at_ + 1; rw [List.length_append]; simp; omega), hu⟩, (by show 2 * f + 1 < 2 * (f + 1) + 1; omega), Uh rfl (Ue _) by4, (Ub _ (Uc _ (Ug (Ue _) (Ug (Ue _) (Ug (Ue _) (Ug (Ue _) (Ug (Ue _) (Ug (Ue _) (Ug (Ue _) (Ug (Ue _) (Ug (Uj (by rw [Al.cellss_app']; rfl)) (Uf _)))))))))) (Ua _ (Ua _ (Ud rfl)))))⟩)
        | (rw [if_neg g92] at hu; exact ⟨(q3, f + 1, acc ++ [Al.mk (Pa.mk vk vs vn vl vp) (Ex.mk wk ws wn (Ty.mk wtk wts wtn wtl) wks wal wbs wp)], u89, false), ⟨l3, (by show L.length - q3.at_ < f + 1; omega), (fun h => by cases h), hu⟩, (by show 2 * (f + 1) + 0 < 2 * (f + 1) + 1; omega), Uh rfl (Ue _) by4, (Ub _ (Uc _ (Ug (Ue _) (Ug (Ue _) (Ug (Ue _) (Ug (Ue _) (Ug (Ue _) (Ug (Ue _) (Ug (Ue _) (Ug (Ue _) (Ug (Uj (by rw [Al.cellss_app']; rfl)) (Uf _)))))))))) (Ua _ (Ua _ (Ud rfl)))))⟩)
     ·exact absurd g48 (by decide)
    ·exact absurd g41 h4
   ·exact absurd g33 h3
  ·exact absurd g25 h2
 ·exact absurd g17 h1
set_option maxHeartbeats 4000000 in
set_option maxRecDepth 100000 in
theorem atom_par (b : Nat) (L : List Tok) (hL : L.length ≤ 100000) (n : Nat) (E : PS → Ex × PS) (HE : ExC b L n E) (HA : ∀ q, POk L n q → Adv L q (E q).2) (p : PS) (k : POk L n p) (h1 : (nxt L p).k ≠ 1) (h2 : (nxt L p).k ≠ 2) (h3 : (nxt L p).k ≠ 3) (h4 : (nxt L p).k ≠ 4) (hc : ¬ isP L p kCase = true) (r : Ex × PS)
    (hr : (if isP L (takeP L p 7 kLP).2 kRP = true then (namE 4 kUnit (nxt L p).a, stepP (takeP L p 7 kLP).2)
     else if (nxt L (takeP L p 7 kLP).2).k = 5 then (namE 3 (takeP L (takeP L p 7 kLP).2 5 kE).1.t (nxt L p).a, (takeP L (takeP L (takeP L p 7 kLP).2 5 kE).2 7 kRP).2)
     else annG L (nxt L p).a (E (takeP L p 7 kLP).2)) = r) : MCall Tryz.prog 124 [.ptr b 0] (.loc b (psC L p)) (.agg r.1.cells) (.loc b (psC L r.2)) := by
 have HN := next_c b L p
 have H1 := take_c b L hL p k.1 7 kLP
 have k1 := (Yp (kind := 7) (s := kLP) (by decide) k).ok k
 obtain ⟨⟨tk, tt, tn, ta⟩, ht⟩ : ∃ t, nxt L p = t := ⟨_, rfl⟩
 rw [ht] at HN hr h1 h2 h3 h4
 simp only [Tok.av] at HN hr h1 h2 h3 h4
 obtain ⟨⟨u1, p1⟩, e1⟩ : ∃ r, takeP L p 7 kLP = r := ⟨_, rfl⟩
 rw [e1] at H1 hr k1
 simp only [] at H1 hr k1
 have HN1 := next_c b L p1
 obtain ⟨⟨qk, qt, qn, qa⟩, ht1⟩ : ∃ t, nxt L p1 = t := ⟨_, rfl⟩
 rw [ht1] at HN1 hr
 have H5 := take_c b L hL p1 k1.1 5 kE
 have k5 := (Yp (kind := 5) (s := kE) (by decide) k1).ok k1
 have HX := HE p1 k1
 have kx := (HA p1 k1).ok k1
 obtain ⟨⟨⟨ok, ot, on, oa⟩, p5⟩, e5⟩ : ∃ r, takeP L p1 5 kE = r := ⟨_, rfl⟩
 rw [e5] at H5 k5 hr
 obtain ⟨⟨⟨xk, xs, xn, ⟨xtk, xts, xtn, xtl⟩, xks, xal, xbs, xp⟩, p2⟩, e2⟩ : ∃ r, E p1 = r := ⟨_, rfl⟩
 rw [e2] at HX kx hr
 unfold annG at hr
 simp only [Tok.av, Ex.cells, Ty.cells, List.cons_append, List.nil_append] at HN1 H5 k5 hr HX kx
 refine Zv Tryz.func124 J (by kernel_rfl) J (Uk J) ?_
 refine Ye (Zg (Zc (Za 2 J J J (Zy (cs' := [_, _, _, _, _, _, _, _, _, _, _]) J Wh J J ?_)))); intro b2
 refine Vx (Zb (Zg (Zc (Za 9 J J J (Zd J J (Za 10 J J J (Ww (xs := [.tmp 9]) [1] J J J (HN) by1 ?_)))))))
 refine Za 3 J J J (Zy (cs' := [_, _, _, _]) J Wq J J ?_); intro b3
 refine Zt J J (Zr (cs' := [_, _, _, _]) (i := 0) J Xk J J J J J (Uk J) J (Vx (Zb (Zg (Zc (Za 11 J J J (Zh J Wz J (Za 12 J J J (Zp (i := 0) J Yz J J J (Za 13 J J J (Yo (ns := [7]) (xs := [.tmp 12]) J Wh J tfl_110 J J J J (Za 4 J J J (Zy (cs' := [_, _, _, _, _, _, _, _, _, _, _]) J Wh J J ?_))))))))))))); intro b4
 refine Zt J J (Zr (cs' := [_, _, _, _, _, _, _, _, _, _, _]) (i := 0) J Wt J J J J J (Uk J) J (Vx (Zb (Zg (Zz (Zg (Zc (Za 15 J J J (Zh J Xg J (Za 16 J J J (Zp (i := 1) J Yz J J J (Za 17 J J J (Yk J J J ?_))))))))))))); intro c17 h17
 refine Za 14 J J J (Zf J J (Vx (Zb ?_)))
 rcases Zi h17 with ⟨rfl, g17⟩ | ⟨rfl, g17⟩
 ·refine Zq J (Zg (Zc (Za 23 J J J (Zh J Xg J (Za 24 J J J (Zp (i := 1) J Yz J J J (Za 25 J J J (Yk J J J ?_)))))))); intro c25 h25
  refine Za 22 J J J (Zf J J (Vx (Zb ?_)))
  rcases Zi h25 with ⟨rfl, g25⟩ | ⟨rfl, g25⟩
  ·refine Zq J (Zg (Zc (Za 31 J J J (Zh J Xg J (Za 32 J J J (Zp (i := 1) J Yz J J J (Za 33 J J J (Yk J J J ?_)))))))); intro c33 h33
   refine Za 30 J J J (Zf J J (Vx (Zb ?_)))
   rcases Zi h33 with ⟨rfl, g33⟩ | ⟨rfl, g33⟩
   ·refine Zq J (Zg (Zc (Za 39 J J J (Zh J Xg J (Za 40 J J J (Zp (i := 1) J Yz J J J (Za 41 J J J (Yk J J J ?_)))))))); intro c41 h41
    refine Za 38 J J J (Zf J J (Vx (Zb ?_)))
    rcases Zi h41 with ⟨rfl, g41⟩ | ⟨rfl, g41⟩
    ·refine Zq J (Zw (Yw (Zb (Zg (Zg (Zc (Za 46 J J J (Zh J tf_110_0 J (Za 47 J J J (Zp (i := 0) J Yz J J J (Za 48 J J J (Vg J J J ?_)))))))))))); intro c48 h48
     refine Vx (Zb ?_)
     rcases Zi h48 with ⟨rfl, g48⟩ | ⟨rfl, g48⟩
     ·refine Zq J (Zw (Zb (Zg (Zg (Zc (Za 57 J J J (Zd J J (Za 58 J J J (Yi (xs := [.tmp 57, .const (.string ⟨#[99, 97, 115, 101]⟩)]) (i := 3) J J J (may_no hL hc) by1 ?_)))))))))
      refine Vx (Zb (Zq J (Zw (Zb (Zg (Zc (Za 96 J J J (Zd J J (Za 97 J J J (Yi (xs := [.tmp 96, .const (.int .i64 7), .const (.string ⟨#[40]⟩)]) (i := 3) J J J (H1) by1 ?_))))))))))
      refine Vx (Zb (Zg (Zg (Zc (Za 98 J J J (Zd J J (Za 99 J J J (op_mayc (xs := [.tmp 98, .const (.string ⟨#[41]⟩)]) (i := 3) J J J (may_c b L hL p1 kRP) by1 ?_ ?_))))))))
      ·intro g99
       refine Vx (Zb (Zu J (Zg (Zc (Za 100 J J J (Zh J Wz J (Za 101 J J J (Zp (i := 1) J Yz J J J (Za 102 J J J (Yo (ns := [0, 1, 7]) (xs := [.const (.int .i64 4), .const (.string ⟨#[85, 110, 105, 116]⟩), .tmp 101]) J Wh J tfl_110 J J J J ?_))))))))))
       refine Zt J J (Zr (cs' := [_, _, _, _, _, _, _, _, _, _, _]) (i := 2) J Wt J J J J J (Uk J) J (Vx (Zb (Ya ?_))))
       rw [if_pos g99] at hr; subst hr; exact Ym (i := 2) rfl rfl rfl Wj rfl by0 (Ub _ (Ub _ (Ub _ (Ud rfl)))) ⟨rfl, rfl⟩
      ·intro g99
       refine Vx (Zb (Zq J (Zw (Zb (Zg (Zg (Zc (Za 103 J J J (Zd J J (Za 104 J J J (Ww (xs := [.tmp 103]) [3] J J J (HN1) by1 ?_)))))))))))
       refine Za 105 J J J (Vd (ft := 3) (fo := 0) J (by kernel_rfl) Yz J J ?_)
       refine Za 106 J J J (Yk J J J ?_); intro c106 h106
       refine Vx (Zb ?_)
       rcases Zi h106 with ⟨rfl, g106⟩ | ⟨rfl, g106⟩
       ·refine Zq J (Zw (Zb (Zg (Zc (Za 116 J J J (Zd J J (Za 117 J J J (Yi (xs := [.tmp 116]) (i := 3) J J J (HX) by1 ?_))))))))
        refine Za 8 J J J (Zy (cs' := [_, _, _, _, _, _, _, _, _, _, _]) J Wh J J ?_); intro b8
        refine Zt J J (Zr (cs' := [_, _, _, _, _, _, _, _, _, _, _]) (i := 0) J Wt J J J J J (Uk J) J (Vx (Zb (Zg (Zg ?_)))))
        rw [if_neg g99, if_neg g106] at hr
        refine Zc (Za 118 J J J (Zd J J (Za 119 J J J (op_mayc (xs := [.tmp 118, .const (.string ⟨#[58]⟩)]) (i := 4) J J J (may_c b L hL p2 kColon) by1 ?_ ?_))))
        ·intro g119
         refine Vx (Zb (Zu J ?_))
         have ka := (Xr kx g119).ok kx
         have HT := typeP_c b L hL n _ ka
         have k8 := (typeP_adv ka).ok ka
         have H8 := take_c b L hL _ k8.1 7 kRP
         rw [if_pos g119] at hr
         obtain ⟨⟨⟨wk, ws, wn, wl⟩, p3⟩, e3⟩ : ∃ r, typeP L (stepP p2) = r := ⟨_, rfl⟩
         rw [e3] at HT H8 hr
         simp only [Ty.cells] at HT H8 hr
         refine Wc [0, 2, 3, 4, 5, 1, 6, 7] [1, 7] [[], [0], [], [2], [], [4], [0, 1, 2, 3, 4, 5], [0, 1, 2, 3, 4, 5, 6]] Wi J (Yc 120 (none) (i := 0) J J J J J (Zd J J ⟨J, J⟩) ?_)
         refine Yc 122 (some 0) (i := 2) J J J J J (Zx (cs' := [_, _, _, _, _, _, _, _, _, _, _]) (i := 0) J Wj J J J J ⟨J, J⟩) ?_
         refine Yc 123 (none) (i := 3) J J J J J (Yh (xs := [.tmp 122]) el_107 J J J J J J (Uk J) ⟨J, J⟩) ?_
         refine Yc 124 (none) (i := 4) J J J J J (Zh J Wz J ⟨J, J⟩) ?_
         refine Yc 125 (some 2) (i := 5) J J J J J (Zp (i := 0) J Yz J J J ⟨J, J⟩) ?_
         refine Xo 4 (i := 1) J J J J J (Yi (xs := [.tmp 120]) (i := 0) J J J (HT) by1 ⟨_, J, ?_⟩)
         refine Yc 126 (none) (i := 6) J J J J J (Yo (ns := [0, 3, 4, 7]) (xs := [.const (.int .i64 12), .tmp 121, .tmp 123, .tmp 125]) J Wh J tfl_110 J J J J ⟨J, J⟩) ?_
         refine Xo 0 (i := 7) J J J J J (Zr (cs' := [_, _, _, _, _, _, _, _, _, _, _]) (i := 0) J Wt J J J J J (Uk J) J ⟨_, J, ?_⟩)
         show AGo _ _ _ _ _ _ _
         refine Zb (Zg ?_)
         first | have H9 := H8 | have H9 := take_c b L hL p2 kx.1 7 kRP
         refine Zc (Za 127 J J J (Zd J J (Za 128 J J J (Yi (xs := [.tmp 127, .const (.int .i64 7), .const (.string ⟨#[41]⟩)]) (i := 4) J J J (H9) by1 ?_))))
         refine Vx (Zb (Zg (Zc (Za 129 J J J (Zx (cs' := [_, _, _, _, _, _, _, _, _, _, _]) (i := 0) J Wj J J J J (Zt J J (Zr (cs' := [_, _, _, _, _, _, _, _, _, _, _]) (i := 3) J Wt J J J J J (Uk J) J (Vx (Zb (Ya ?_))))))))))
         subst hr; exact Ym (i := 3) rfl rfl rfl Wj rfl by0 (Ub _ (Ub _ (Ub _ (Ub _ (Ud rfl))))) ⟨rfl, rfl⟩
        ·intro g119
         refine Vx (Zb (Zq J (Zw (Zb (Zg ?_)))))
         first | have H9 := H8 | have H9 := take_c b L hL p2 kx.1 7 kRP
         refine Zc (Za 127 J J J (Zd J J (Za 128 J J J (Yi (xs := [.tmp 127, .const (.int .i64 7), .const (.string ⟨#[41]⟩)]) (i := 4) J J J (H9) by1 ?_))))
         refine Vx (Zb (Zg (Zc (Za 129 J J J (Zx (cs' := [_, _, _, _, _, _, _, _, _, _, _]) (i := 0) J Wj J J J J (Zt J J (Zr (cs' := [_, _, _, _, _, _, _, _, _, _, _]) (i := 3) J Wt J J J J J (Uk J) J (Vx (Zb (Ya ?_))))))))))
         rw [if_neg g119] at hr; subst hr; exact Ym (i := 3) rfl rfl rfl Wj rfl by0 (Ub _ (Ub _ (Ub _ (Ub _ (Ud rfl))))) ⟨rfl, rfl⟩
       ·refine Zu J (Zg (Zc (Za 107 J J J (Zd J J (Za 108 J J J (Yi (xs := [.tmp 107, .const (.int .i64 5), .const (.string ⟨#[]⟩)]) (i := 3) J J J (H5) by1 ?_))))))
        refine Za 7 J J J (Zy (cs' := [_, _, _, _]) J Wq J J ?_); intro b7
        refine Zt J J (Zr (cs' := [_, _, _, _]) (i := 0) J Xk J J J J J (Uk J) J (Vx (Zb (Zg (Zc (Za 109 J J J (Zd J J (Za 110 J J J (Yi (xs := [.tmp 109, .const (.int .i64 7), .const (.string ⟨#[41]⟩)]) (i := 4) J J J (take_c b L hL p5 k5.1 7 kRP) by1 ?_)))))))))
        refine Vx (Zb (Zg (Zc (Za 111 J J J (Zh J Xi J (Za 112 J J J (Zp (i := 0) J Xb J J J (Za 113 J J J (Zh J Wz J (Za 114 J J J (Zp (i := 2) J Yz J J J (Za 115 J J J (Yo (ns := [0, 1, 7]) (xs := [.const (.int .i64 3), .tmp 112, .tmp 114]) J Wh J tfl_110 J J J J ?_)))))))))))))
        refine Zt J J (Zr (cs' := [_, _, _, _, _, _, _, _, _, _, _]) (i := 3) J Wt J J J J J (Uk J) J (Vx (Zb (Ya ?_))))
        rw [if_neg g99, if_pos g106] at hr; subst hr; exact Ym (i := 3) rfl rfl rfl Wj rfl by0 (Ub _ (Ub _ (Ub _ (Ub _ (Ud rfl))))) ⟨rfl, rfl⟩
     ·exact absurd g48 (by decide)
    ·exact absurd g41 h4
   ·exact absurd g33 h3
  ·exact absurd g25 h2
 ·exact absurd g17 h1
theorem atom_c (b : Nat) (L : List Tok) (hL : L.length ≤ 100000) (n : Nat) (E : PS → Ex × PS) (HE : ExC b L n E) (HA : ∀ q, POk L n q → Adv L q (E q).2) (p : PS) (k : POk L n p) : MCall Tryz.prog 124 [.ptr b 0] (.loc b (psC L p)) (.agg (atomG L E p).1.cells) (.loc b (psC L (atomG L E p).2)) := by
 by_cases h1 : (nxt L p).k = 1
 ·exact atom_lit b L hL n E p k (.inl h1)
 by_cases h2 : (nxt L p).k = 2
 ·exact atom_lit b L hL n E p k (.inr (.inl h2))
 by_cases h3 : (nxt L p).k = 3
 ·exact atom_lit b L hL n E p k (.inr (.inr (.inl h3)))
 by_cases h4 : (nxt L p).k = 4
 ·exact atom_lit b L hL n E p k (.inr (.inr (.inr h4)))
 by_cases h5 : isP L p kCase = true
 ·rw [atomG, if_neg h1, if_neg h2, if_neg h3, if_neg h4, if_pos h5]; exact atom_case b L hL n E HE HA p k h1 h2 h3 h4 h5
 ·exact atom_par b L hL n E HE HA p k h1 h2 h3 h4 h5 _ (by rw [atomG, if_neg h1, if_neg h2, if_neg h3, if_neg h4, if_neg h5])
end Go.Proofs.YtknodnfbaofngaaGreat
