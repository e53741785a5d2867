/- Parts of a proof: Prove of the document; the examples' source, as tokens; the examples' source, parsed; the examples' declarations are right; operations that are guarded, in a drawn region that writes; the document's parser: next, is; the document's parser: fail, take, may, deeper; the document's parser: name, uppers, starts; the document's parser: atype, Type; the document's parser: apat, pat; fix.Level; cognateref04.Level; the document's operators: Level, Side, Clash; the document's parser: Build; the document's parser: bind, lambda; the document's parser: atom; the document's parser: atom, in brackets; the document's parser: operand -/
import Derived.Test.YtknodnfbaofngaaGreatKLNProves6
namespace Go.Proofs.YtknodnfbaofngaaGreat
open Go.RowKit
theorem fits_iff {v : En} (hv : EnC v) {p : Pr} {i : Nat} {y : In} (hy : v.ins[i]? = some y) : (y.c = p.c ∧ p.t.kind = 3 ∧ y.hd.name = p.t.name ∧ y.hd.kids.length = p.t.kids.length) ↔ (fitsR v p = true ∧ instI v p.c p.t.name = i) := by
 unfold fitsR
 rw [decide_eq_true_eq]
 constructor
 ·rintro ⟨h1, h2, h3, h4⟩
  have := hv.un i y hy
  rw [h1, h3] at this
  rw [this, show ((i : Int)).toNat = i by omega, hy]
  exact ⟨⟨by omega, h2, by simp [h4]⟩, J⟩
 ·rintro ⟨⟨h1, h2, h3⟩, h4⟩
  obtain ⟨z, hz, k1, k2⟩ := instI_hit h1
  rw [h4, show ((i : Int)).toNat = i by omega, hy] at hz
  cases hz
  rw [h4, show ((i : Int)).toNat = i by omega, hy] at h3
  simp at h3
  exact ⟨k1, h2, k2, h3.symm⟩
theorem filter_all {α : Type} {f : α → Bool} : ∀ {l : List α}, (l.filter f).length = l.length ↔ l.all f = true
 | [] => by simp
 | x :: l => by
  have := List.length_filter_le f l
  have ih := filter_all (f := f) (l := l)
  cases h : f x <;> simp [h] <;> first | omega | simpa using ih
set_option maxHeartbeats 4000000 in
set_option maxRecDepth 100000 in
theorem rProve_c (v : En) (hv : EnC v) (gs : List Pr) : ∀ (n : Nat) (p : Pr), p.t.size < n → PCall Tryz.prog 12 [.agg v.cells, .seq 5 (Pr.cellss gs), .agg p.cells] (.tup [.agg (proveF v gs n p).1.cells, .val (.bool (proveF v gs n p).2)])
 | 0, p, h => by omega
 | n + 1, p, h => by
  have IH := fun q a => rProve_c v hv gs n q a
  have HG := fun g => rSame_c g p
  have HF := fun y => rFits_c y p
  have HE := fun (i : Nat) (y : In) (hy : v.ins[i]? = some y) => fits_iff hv (p := p) hy
  have HN := fun (i : Nat) => rNeeds_c v hv.g i p.t
  have HS := fun (g : Pr) => SameType_c g.t p.t
  have HA := fun (g : Pr) => (Above_c v hv.g.b.sup g.c).pure
  have HH := fun (g : Pr) => Has_c (aboveR v g.c) p.c
  have HU0 := fun (g : Pr) (i : Nat) h => rclimb_c v hv g.c p.c (.mk 1 i kE []) (.inr h)
  obtain ⟨r, hr⟩ : ∃ r, proveF v gs (n + 1) p = r := ⟨_, rfl⟩
  rw [hr]
  rw [proveF] at hr
  obtain ⟨gi, hgi⟩ : ∃ g, givI gs p = g := ⟨_, rfl⟩
  rw [hgi] at hr
  unfold givI at hgi
  generalize hgp : (fun g => prB g p) = gp at hgi
  have hgq : ∀ g, gp g = true ↔ g = p := fun g => by subst hgp; exact prB_iff
  clear hgp
  have hfi : fitsR v p = true → 0 ≤ instI v p.c p.t.name ∧ instI v p.c p.t.name < v.ins.length := fun q => by
   unfold fitsR at q
   have h0 := (of_decide_eq_true q).1
   obtain ⟨z, hz, _⟩ := instI_hit h0
   have := get_lt hz
   omega
  have hnz := fun q (hq : q ∈ needsR v (instI v p.c p.t.name) p.t) => hv.needs_size hq
  have IH : ∀ q ∈ needsR v (instI v p.c p.t.name) p.t, PCall Tryz.prog _ _ _ := fun q hq => IH q (by have := hnz q hq; omega)
  clear hnz
  have hlb := needsR_len hv.g.b (instI v p.c p.t.name) p.t
  have HN : ∀ i : Nat, instI v p.c p.t.name = i → PCall Tryz.prog 18 [.agg v.cells, .val (.int .i64 i), .agg p.t.cells] (.seq 5 (Pr.cellss (needsR v (instI v p.c p.t.name) p.t))) := fun i hi => by rw [hi]; exact HN i
  generalize proveF v gs n = F at *
  generalize needsR v (instI v p.c p.t.name) p.t = l at *
  generalize fitsR v p = fb at *
  generalize instI v p.c p.t.name = ii at *
  obtain ⟨si, hsi⟩ : ∃ s, supI v gs p = s := ⟨_, rfl⟩
  have hsh0 := fun (i : Nat) g (e : si = i) => supP_hit (v := v) (gs := gs) (p := p) (g := g) (i := i) (hsi.trans e)
  have hsn : si < 0 → _ := fun e => supP_no (v := v) (gs := gs) (p := p) (by omega)
  unfold supI at hsi
  generalize hpp : (fun (g : Pr) => g.t.eqb p.t && hasB (aboveR v g.c) p.c) = pp at hsi
  have hpq : ∀ g, pp g = true ↔ (g.t = p.t ∧ p.c ∈ aboveR v g.c) := fun s => by subst hpp; simp only [Bool.and_eq_true, Ty.eqb_iff, hasB_iff]
  clear hpp
  generalize supP v gs p = sp at *
  have hUF : ∃ U : Pr → Nat → Pf, U = fun (g : Pr) (i : Nat) => upF v g.c p.c (.mk 1 i kE []) := ⟨_, rfl⟩
  obtain ⟨U, hU⟩ := hUF
  have HU : ∀ (g : Pr) (i : Nat), p.c ∈ aboveR v g.c → PCall Tryz.prog 39 [.agg v.cells, .val (.string g.c), .val (.string p.c), .agg (Pf.mk 1 i kE []).cells] (.agg (U g i).cells) := fun g i h => by rw [hU]; exact HU0 g i h
  have hsh : ∀ (i : Nat) g, si = i → gs[i]? = some g → sp = (U g i, true) := fun i g e k => by rw [hU]; exact hsh0 i g e k
  clear hU hv h hsh0 HU0
  generalize aboveR v = av at *
  obtain ⟨pc, ⟨pk, ps, pn, pl⟩⟩ := p
  obtain ⟨da, cl, ins⟩ := v
  obtain ⟨⟨rk, rn, rc, rl⟩, rb⟩ := r
  have hgl := Pr.cellss_len gs
  have hll := Pr.cellss_len l
  have hil := In.cellss_len ins
  simp only [En.cells, Pf.cells, Pf.cellss, Pr.cells, Ty.cells, Pr.c, Pr.t, En.ins] at *
  refine Zv Tryz.func12 J (by kernel_rfl) J (Uc J) ?_
  refine Yg ?_
  refine c_lens (t := 1) J (.seq _ _) (fun hmax => ?_)
  refine Zg (Zc ?_)
  refine Za 3 J J J (Xg (cs' := [_, _, _]) J J J J ?_)
  refine Za 5 J J J (Xg (cs' := [_, _, _, _, _]) J J J J ?_)
  refine Za 6 J J J (Zw (cs' := [_, _, _, _]) J tz_30 J J ?_); intro b6
  refine Za 7 J J J (Ze J J ?_)
  refine Vp (Zb (Zg (Zg (Zc ?_))))
  refine Za 8 J J J (Ze J J ?_)
  refine Vp (Zb (Zz ?_))
  apply Xj [0, 2, 4, 7, 8, 16, 17, 18, 19, 20, 21, 22, 23, 24, 25, 26, 27, 28, 29] (σ := Nat) (fun zz => match zz with | i => [(8, .val (.int .i64 i))]) (fun zz => match zz with | i => i ≤ gs.length ∧ findI gp (gs.drop i) i = gi) (fun zz => match zz with | i => gs.length - i) (0)
  ·repeat' (first | exact Uf | apply Ud rfl | apply Ue rfl)
  ·exact ⟨Nat.zero_le _, hgi⟩
  ·exact by4
  rintro i hI
  try dsimp only [List.cons_append, List.nil_append] at hI ⊢
  obtain ⟨hi, hf⟩ := hI
  refine Zg (Zg (Zc ?_))
  refine Za 16 J J J (Zd J J ?_)
  refine Za 17 J J J (Zd J J ?_)
  refine Za 18 J J J (Yy J tu_22 J (.seq _ _) (fun n18 => ?_))
  refine Za 19 J J J (Yt J J J ?_); intro c19 h19
  refine Vp (Zb ?_)
  rcases Zh h19 with ⟨rfl, g19⟩ | ⟨rfl, g19⟩
  ·refine Zn J (Xb (Yz (Xt (Xa (Zb (Zg (Zg ?_)))))))
   rw [Ui (by omega), findI] at hf
   rw [if_neg (by omega)] at hr
   refine Zc ?_
   refine Za 9 J J J (Ze J J ?_)
   refine Vp (Zb (Zz ?_))
   apply Xj [0, 2, 4, 7, 8, 9, 10, 11, 12, 13, 14, 16, 17, 18, 19, 20, 21, 22, 23, 24, 25, 26, 27, 28, 29, 30, 31, 32, 33, 34, 35, 36, 37, 38, 39, 40, 41, 42, 43, 44, 45, 46, 47, 48, 49, 50, 51, 52, 53, 54, 55, 56, 57, 58, 59, 60, 61, 62, 63, 64, 65, 66, 67, 68, 69, 70, 71, 72, 73, 74, 75, 76, 77] (σ := Nat) (fun zz => match zz with | i => [(9, .val (.int .i64 i))]) (fun zz => match zz with | i => i ≤ ins.length ∧ (fb = true → (l.all fun q => (F q).2) = true → i ≤ ii)) (fun zz => match zz with | i => ins.length - i) (0)
   ·repeat' (first | exact Uf | apply Ud rfl | apply Ue rfl)
   ·exact ⟨Nat.zero_le _, fun q _ => (hfi q).1⟩
   ·exact by4
   rintro i hI
   try dsimp only [List.cons_append, List.nil_append] at hI ⊢
   obtain ⟨hi2, hf2⟩ := hI
   refine Zg (Zg (Zc ?_))
   refine Za 30 J J J (Zd J J ?_)
   refine Za 31 J J J (Zj J Vi J J ?_)
   refine Za 32 J J J (Zr J ta_36 J J ?_)
   refine Za 33 J J J (Yy J tu_36 J (.seq _ _) (fun n33 => ?_))
   refine Za 34 J J J (Yt J J J ?_); intro c34 h34
   refine Vp (Zb ?_)
   rcases Zh h34 with ⟨rfl, g34⟩ | ⟨rfl, g34⟩
   ·refine Zn J (Xb (Yz (Xt (Xa (Zb (Zg (Zg ?_)))))))
    have hr : sp = (Pf.mk rk rn rc rl, rb) := by
     rw [if_neg (fun q => by have := hf2 q.1 q.2; have := (hfi q.1).2; omega)] at hr
     exact hr
    refine Zc ?_
    refine Za 15 J J J (Ze J J ?_)
    refine Vp (Zb (Zz ?_))
    apply Xj [0, 2, 4, 7, 8, 9, 10, 11, 12, 13, 14, 15, 16, 17, 18, 19, 20, 21, 22, 23, 24, 25, 26, 27, 28, 29, 31, 32, 33, 34, 35, 36, 37, 38, 39, 40, 41, 42, 43, 44, 45, 46, 47, 48, 49, 50, 51, 52, 53, 54, 55, 56, 57, 58, 59, 60, 61, 62, 63, 64, 65, 66, 67, 68, 69, 70, 71, 72, 73, 74, 75, 76, 77, 78, 79, 80, 81, 82, 83, 84, 85, 86, 87, 88, 89, 90, 91, 92, 93, 94, 95, 96, 97, 98, 99, 100, 101, 102, 103, 104, 105, 106, 107, 108, 109, 110, 111, 112, 113, 114] (σ := Nat) (fun zz => match zz with | i3 => [(15, .val (.int .i64 i3))]) (fun zz => match zz with | i3 => i3 ≤ gs.length ∧ findI pp (gs.drop i3) i3 = si) (fun zz => match zz with | i3 => gs.length - i3) (0)
    ·repeat' (first | exact Uf | apply Ud rfl | apply Ue rfl)
    ·exact ⟨Nat.zero_le _, hsi⟩
    ·exact by4
    rintro i3 hI
    try dsimp only [List.cons_append, List.nil_append] at hI ⊢
    obtain ⟨hi3, hf3⟩ := hI
    refine Zg (Zg (Zc ?_))
    refine Za 78 J J J (Zd J J ?_)
    refine Za 79 J J J (Zd J J ?_)
    refine Za 80 J J J (Yy J tu_22 J (.seq _ _) (fun n80 => ?_))
    refine Za 81 J J J (Yt J J J ?_); intro c81 h81
    refine Vp (Zb ?_)
    rcases Zh h81 with ⟨rfl, g81⟩ | ⟨rfl, g81⟩
    ·refine Zn J (Xb (Yz (Xt (Xa (Zb (Zg (Zc ?_)))))))
     refine Za 115 J J J (Yk (ns := []) (xs := []) J tz_30 J tfl_30 J J J J ?_)
     refine Zo J J (Zm (cs' := [_, _, _, _]) (i := 0) J ts_30 J J J J J (Uc J) J ?_)
     refine Za 7 J J J (Ze J J ?_)
     refine Vp (Zb ?_)
     refine Ya ?_
     rw [Ui (by omega), findI] at hf3
     rw [hsn (by omega)] at hr
     cases hr
     exact Wq (i := 0) J J J J Wz J by0 (Vr _) ⟨J, J⟩
    ·refine Zq J (Zt (Zb (Zg (Zz (Zg ?_)))))
     obtain ⟨⟨gc, ⟨gtk, gts, gtn, gtl⟩⟩, hxg⟩ := Yu (l := gs) (i := i3) by7
     have hcg := Pr.cellss_get hxg
     have hmg := Uh hxg
     rw [Xo hxg, findI] at hf3
     have HSg := HS (Pr.mk gc ⟨gtk, gts, gtn, gtl⟩)
     have HAg := HA (Pr.mk gc ⟨gtk, gts, gtn, gtl⟩)
     have HHg := HH (Pr.mk gc ⟨gtk, gts, gtn, gtl⟩)
     simp only [Ty.cells] at HSg HAg HHg
     refine c_boold 103 (Ty.mk gtk gts gtn gtl = Ty.mk pk ps pn pl ∧ pc ∈ av gc) Wm J ?_ _ _ J ?_
     ·skip
      refine Zs 84 J J (Zd J J ⟨J, J⟩) ?_
      refine Zs 85 J J (Zd J J ⟨J, J⟩) ?_
      refine Zs 86 J J (Yd J te_22 J (.seq _ _) J J (hcg) ⟨J, J⟩) ?_
      refine Zs 87 J J (Zj J Wl J J ⟨J, J⟩) ?_
      refine Zs 88 J J (Yc (cs' := [_, _, _, _]) J Xq J J J ⟨J, J⟩) ?_
      refine Zs 89 J J (Zj J Wl J J ⟨J, J⟩) ?_
      refine Zs 90 J J (Yc (cs' := [_, _, _, _]) J Xq J J J ⟨J, J⟩) ?_
      refine Wa 91 J J (fun _ q => Yf (xs := [.tmp 88, .tmp 90]) J J (HSg) by1 q) ?_; intro c91 h91
      refine Zs 92 J J (Zd J J ⟨J, J⟩) ?_
      rcases Zh h91 with ⟨rfl, g91⟩ | ⟨rfl, g91⟩
      ·skip
       refine Zu 93 J J J J ?_
       refine Zu 94 J J J J ?_
       refine Zu 95 J J J J ?_
       refine Zu 96 J J J J ?_
       refine Zu 97 J J J J ?_
       refine Zu 98 J J J J ?_
       refine Zu 99 J J J J ?_
       refine Zu 100 J J J J ?_
       refine Zu 101 J J J J ?_
       refine Zu 102 J J J J ?_
       refine Zs 103 J J (Zp J J J ⟨J, J⟩) ?_
       show BoolQ _ _ _ _ _ _
       refine Ua J ?_ by5 by3
       clear HSg HAg HHg HS HA HH HU HG HF HN IH; first | (simp_all; done) | grind
      ·skip
       refine Yb 93 J J J J (Yc (cs' := [_, _, _]) J Wd J J J ⟨J, J⟩) ?_
       refine Yb 94 J J J J (Zd J J ⟨J, J⟩) ?_
       refine Yb 95 J J J J (Zd J J ⟨J, J⟩) ?_
       refine Yb 96 J J J J (Yd J te_22 J (.seq _ _) J J (hcg) ⟨J, J⟩) ?_
       refine Yb 97 J J J J (Zj J Wt J J ⟨J, J⟩) ?_
       refine Yb 98 J J J J (Zr J Xc J J ⟨J, J⟩) ?_
       refine Yb 99 J J J J (Ym (xs := [.tmp 93, .tmp 98]) J J (HAg) by1 ⟨J, J⟩) ?_
       refine Yb 100 J J J J (Zj J Wt J J ⟨J, J⟩) ?_
       refine Yb 101 J J J J (Zr J Xc J J ⟨J, J⟩) ?_
       refine Wf 102 J J J J (fun _ q => Yf (xs := [.tmp 99, .tmp 101]) J J (HHg) by1 q) ?_; intro c102 h102
       refine Zs 103 J J (Zp J J J ⟨J, J⟩) ?_
       show BoolQ _ _ _ _ _ _
       refine Ua J ?_ by5 by3
       clear HSg HAg HHg HS HA HH HU HG HF HN IH; first | (simp_all; done) | grind
     intro c103 h103
     refine Zb ?_
     rcases Zh h103 with ⟨rfl, g103⟩ | ⟨rfl, g103⟩
     ·refine Zn J (Zt ?_)
      refine Yr ?_
      refine Zb (Zc ?_)
      refine Za 82 J J J (Zd J J ?_)
      refine Za 83 J J J (Ys J J J (Ug _ (by omega)) ?_)
      refine Za 15 J J J (Ze J J ?_)
      refine Vp ?_
      refine Yx ?_
      rw [if_neg (fun q => g103 ((hpq _).1 q))] at hf3; exact ⟨i3 + 1, ⟨by show i3 + 1 ≤ gs.length; omega, hf3⟩, by show gs.length - (i3 + 1) < gs.length - i3; omega, by4, by3⟩
     ·refine Zq J (Zg ?_)
      rw [if_pos ((hpq _).2 g103)] at hf3
      have hsp := hsh i3 _ hf3.symm hxg
      rw [hsp] at hr
      have HUg := HU (Pr.mk gc ⟨gtk, gts, gtn, gtl⟩) i3 g103.2
      obtain ⟨h1r, h2r⟩ := Prod.mk.inj hr
      rw [h1r] at HUg
      simp only [Pf.cells] at HUg
      refine Xs [0, 1, 2, 3, 4, 5, 6, 7, 8, 9, 10, 11, 12] [11] [[], [], [], [1, 2], [1, 2, 3], [1, 2, 3, 4], [], [6], [], [8], [0, 1, 2, 3, 4, 5, 6, 7, 8, 9], [0, 1, 2, 3, 4, 5, 6, 7, 8, 9, 10], [0, 1, 2, 3, 4, 5, 6, 7, 8, 9, 10, 11]] Wm J ?_
      refine Zx 104 (none) (i := 0) J J J J J (Yc (cs' := [_, _, _]) J Wd J J J ⟨J, J⟩) ?_
      refine Zx 105 (none) (i := 1) J J J J J (Zd J J ⟨J, J⟩) ?_
      refine Zx 106 (none) (i := 2) J J J J J (Zd J J ⟨J, J⟩) ?_
      refine Zx 107 (none) (i := 3) J J J J J (Yd J te_22 J (.seq _ _) J J (hcg) ⟨J, J⟩) ?_
      refine Zx 108 (none) (i := 4) J J J J J (Zj J Wt J J ⟨J, J⟩) ?_
      refine Zx 109 (none) (i := 5) J J J J J (Zr J Xc J J ⟨J, J⟩) ?_
      refine Zx 110 (none) (i := 6) J J J J J (Zj J Wt J J ⟨J, J⟩) ?_
      refine Zx 111 (none) (i := 7) J J J J J (Zr J Xc J J ⟨J, J⟩) ?_
      refine Zx 112 (none) (i := 8) J J J J J (Zd J J ⟨J, J⟩) ?_
      refine Zx 113 (none) (i := 9) J J J J J (Yk (ns := [0, 1]) (xs := [.const (.int .i64 1), .tmp 112]) J tz_30 J tfl_30 J J J J ⟨J, J⟩) ?_
      refine Zx 114 (none) (i := 10) J J J J J (Ym (xs := [.tmp 104, .tmp 109, .tmp 111, .tmp 113]) J J (HUg) by1 ⟨J, J⟩) ?_
      refine Xm 0 (i := 11) J J J J J (Zm (cs' := [_, _, _, _]) (i := 0) J ts_30 J J J J J (Uc J) J ⟨_, J, ?_⟩)
      refine Zx 7 (none) (i := 12) J J J J J (Ze J J ⟨J, J⟩) ?_
      show AGo _ _ _ _ _ _ _
      refine Zb ?_
      refine Ya ?_
      subst h2r; exact Wq (i := 0) rfl rfl rfl rfl Wz rfl by0 (Vr _) ⟨rfl, rfl⟩
   ·refine Zq J (Zt (Zb (Zg (Zz (Zg ?_)))))
    obtain ⟨⟨yc, ⟨yhdk, yhds, yhdn, yhdl⟩, ycx, ybs, yp⟩, hxy⟩ := Yu (l := ins) (i := i) by7
    have hcy := In.cellss_get hxy
    have hmy := Uh hxy
    have HFy := HF (In.mk yc ⟨yhdk, yhds, yhdn, yhdl⟩ ycx ybs yp)
    have HEy := HE i _ hxy
    rw [propext HEy] at HFy
    simp only [In.cells, Ty.cells, List.cons_append, List.nil_append] at HFy
    refine Ve Wm J ?_
    refine Zs 37 J J (Zj J Vi J J ⟨J, J⟩) ?_
    refine Zs 38 J J (Zr J ta_36 J J ⟨J, J⟩) ?_
    refine Zs 39 J J (Zd J J ⟨J, J⟩) ?_
    refine Zs 40 J J (Yd J te_36 J (.seq _ _) J J (hcy) ⟨J, J⟩) ?_
    refine Zs 41 J J (Yc (cs' := [_, _, _, _, _, _, _, _]) J ta_73 J J J ⟨J, J⟩) ?_
    refine Zs 42 J J (Yc (cs' := [_, _, _, _, _]) J ta_27 J J J ⟨J, J⟩) ?_
    refine Wa 43 J J (fun _ q => Yf (xs := [.tmp 41, .tmp 42]) J J (HFy) by1 q) ?_; intro c43 h43
    show AGo _ _ _ _ _ _ _
    refine Zb ?_
    rcases Zh h43 with ⟨rfl, g43⟩ | ⟨rfl, g43⟩
    ·refine Zn J (Zt ?_)
     refine Yr ?_
     refine Zb (Zc ?_)
     refine Za 35 J J J (Zd J J ?_)
     refine Za 36 J J J (Ys J J J (Ug _ (by omega)) ?_)
     refine Za 9 J J J (Ze J J ?_)
     refine Vp ?_
     refine Yx ?_
     first
     | exact ⟨i + 1, ⟨by show i + 1 ≤ ins.length; omega, fun q1 q2 => absurd (hfl.2 q2) (by omega)⟩, by show ins.length - (i + 1) < ins.length - i; omega, by4, by3⟩
     | exact ⟨i + 1, ⟨by show i + 1 ≤ ins.length; omega, fun q1 q2 => by have := hf2 q1 q2; have : ¬ ii = i := fun e => g43 ⟨q1, e⟩; show ((i + 1 : Nat) : Int) ≤ ii; omega⟩, by show ins.length - (i + 1) < ins.length - i; omega, by4, by3⟩
    ·refine Zq J (Zg ?_)
     obtain ⟨hfb, hii⟩ := g43
     have HNi := HN i hii
     refine Zc ?_
     refine Za 44 J J J (Yc (cs' := [_, _, _]) J Wd J J J ?_)
     refine Za 45 J J J (Zd J J ?_)
     refine Za 46 J J J (Zj J Wl J J ?_)
     refine Za 47 J J J (Yc (cs' := [_, _, _, _]) J Xq J J J ?_)
     refine Za 48 J J J (Ym (xs := [.tmp 44, .tmp 45, .tmp 47]) J J (HNi) by1 ?_)
     refine Za 10 J J J (Ze J J ?_)
     refine Vp (Zb (Zg (Zc ?_)))
     refine Za 11 J J J (Ze J J ?_)
     refine Vp (Zb (Zg (Zg (Zc ?_))))
     refine Za 12 J J J (Ze J J ?_)
     refine Vp (Zb (Zz ?_))
     refine c_lens (t := 10) J (.seq _ _) (fun hmax2 => ?_)
     refine Xy 30 4 ?_
     apply Wc [0, 2, 4, 8, 11, 12, 13, 14, 16, 17, 18, 19, 20, 21, 22, 23, 24, 25, 26, 27, 28, 29, 49, 50, 51, 52, 53, 54, 55, 56, 57, 58, 59, 60, 61, 62, 63, 64, 65, 66, 67, 68, 69] (σ := Nat × List Pf × Value) (fun zz => match zz with | (k, acc, u) => [(12, .val (.int .i64 k)), (11, .own u 4 (Pf.cellss acc))]) (fun zz => match zz with | (k, acc, u) => [.loc b6 [.val (.int .i64 0), .val (.int .i64 0), .val (.string kE), .val (.slice none 0 0)], .own 30 4 u]) (fun zz => match zz with | (k, acc, u) => k ≤ l.length ∧ acc = ((l.take k).filter fun q => (F q).2).map (fun q => (F q).1)) (fun zz => match zz with | (k, acc, u) => l.length - k) ((0, [], .slice none 0 0))
     ·repeat' (first | exact Uf | apply Ud rfl | apply Ue rfl)
     ·exact ⟨Nat.zero_le _, J⟩
     ·exact Vz J (Vw _) (Vz J (Le.nilOwn 4) (SLe.nil _))
     ·exact (Vv J)
     rintro ⟨k, acc, u⟩ hI
     try dsimp only [List.cons_append, List.nil_append] at hI ⊢
     obtain ⟨h1, ha⟩ := hI
     have hle : (Pf.cellss acc).length ≤ 10000000000 := by
      rw [Pf.cellss_len, ha, List.length_map]
      have := List.length_filter_le (fun q => (F q).2) (l.take k)
      rw [List.length_take] at this
      omega
     refine Zg (Zg (Zc ?_))
     refine Za 49 J J J (Zd J J ?_)
     refine Za 50 J J J (Zd J J ?_)
     refine Za 51 J J J (Yy J tu_22 J (.seq _ _) (fun n51 => ?_))
     refine Za 52 J J J (Yt J J J ?_); intro c52 h52
     refine Vp (Zb ?_)
     rcases Zh h52 with ⟨rfl, g52⟩ | ⟨rfl, g52⟩
     ·refine Zn J (Xb (Yz (Xt (Xa (Zb (Zg ?_))))))
      rw [List.take_of_length_le (by omega)] at ha
      have hla : (Pf.cellss acc).length = (l.filter fun q => (F q).2).length := by rw [Pf.cellss_len, ha, List.length_map]
      have hfl := filter_all (f := fun q => (F q).2) (l := l)
      refine Zc ?_
      refine Za 70 J J J (Zd J J ?_)
      refine Za 71 J J J (Yy J tu_28 J (.own _ _ _) (fun n71 => ?_))
      refine Za 72 J J J (Zd J J ?_)
      refine Za 73 J J J (Yy J tu_22 J (.seq _ _) (fun n73 => ?_))
      refine Za 74 J J J (Yv J J J ?_); intro c74 h74
      refine Vp (Zb ?_)
      rcases Zh h74 with ⟨rfl, g74⟩ | ⟨rfl, g74⟩
      ·refine Zn J (Zt ?_)
       refine Yr ?_
       refine Zb (Zc ?_)
       refine Za 35 J J J (Zd J J ?_)
       refine Za 36 J J J (Ys J J J (Ug _ (by omega)) ?_)
       refine Za 9 J J J (Ze J J ?_)
       refine Vp ?_
       refine Yx ?_
       first
       | exact ⟨i + 1, ⟨by show i + 1 ≤ ins.length; omega, fun q1 q2 => absurd (hfl.2 q2) (by omega)⟩, by show ins.length - (i + 1) < ins.length - i; omega, by4, by3⟩
       | exact ⟨i + 1, ⟨by show i + 1 ≤ ins.length; omega, fun q1 q2 => by have := hf2 q1 q2; have : ¬ ii = i := fun e => g43 ⟨q1, e⟩; show ((i + 1 : Nat) : Int) ≤ ii; omega⟩, by show ins.length - (i + 1) < ins.length - i; omega, by4, by3⟩
      ·refine Zq J (Zg (Zc ?_))
       refine Za 75 J J J (Zd J J ?_)
       refine Za 76 J J J (Zd J J ?_)
       refine Za 77 J J J (Yk (ns := [0, 1, 3]) (xs := [.const (.int .i64 3), .tmp 75, .tmp 76]) J tz_30 J tfl_30 J J J J ?_)
       refine Zo J J (Zm (cs' := [_, _, _, _]) (i := 0) J ts_30 J J J J J (Uc J) J ?_)
       refine Za 7 J J J (Ze J J ?_)
       refine Vp (Zb ?_)
       refine Ya ?_
       have hal := hfl.1 (by omega)
       rw [List.filter_eq_self.2 (fun q hq => (List.all_eq_true.1 hal) q hq)] at ha
       rw [if_pos ⟨hfb, hal⟩, ← ha, hii] at hr
       cases hr
       exact Wq (i := 0) J J J J Wz J by0 (Vr _) ⟨J, J⟩
     ·refine Zq J (Zt (Zb (Zg (Zz (Zg ?_)))))
      obtain ⟨⟨qc, ⟨qtk, qts, qtn, qtl⟩⟩, hxq⟩ := Yu (l := l) (i := k) by7
      have hcq := Pr.cellss_get hxq
      have hmq := Uh hxq
      have HP := IH _ hmq
      have hsq := Xx hxq
      obtain ⟨⟨⟨zk, zn, zc, zl⟩, c14⟩, hy⟩ : ∃ z, F (Pr.mk qc ⟨qtk, qts, qtn, qtl⟩) = z := ⟨_, rfl⟩
      rw [hy] at HP
      simp only [Pf.cells, Ty.cells] at HP
      refine Xs [0, 1, 2, 3, 4, 5, 6, 7, 8, 9, 10, 11, 12] [10, 11] [[], [], [], [], [2, 3], [2, 3, 4], [0, 1, 2, 3, 4, 5], [0, 1, 2, 3, 4, 5, 6], [0, 1, 2, 3, 4, 5, 6, 7], [0, 1, 2, 3, 4, 5, 6, 7], [], [0, 1, 2, 3, 4, 5, 6, 7, 8, 10], [0, 1, 2, 3, 4, 5, 6, 7, 8, 9, 10, 11]] Wm J ?_
      refine Zx 56 (none) (i := 0) J J J J J (Yc (cs' := [_, _, _]) J Wd J J J ⟨J, J⟩) ?_
      refine Zx 57 (none) (i := 1) J J J J J (Zd J J ⟨J, J⟩) ?_
      refine Zx 58 (none) (i := 2) J J J J J (Zd J J ⟨J, J⟩) ?_
      refine Zx 59 (none) (i := 3) J J J J J (Zd J J ⟨J, J⟩) ?_
      refine Zx 60 (none) (i := 4) J J J J J (Yd J te_22 J (.seq _ _) J J (hcq) ⟨J, J⟩) ?_
      refine Zx 61 (none) (i := 5) J J J J J (Yc (cs' := [_, _, _, _, _]) J ta_27 J J J ⟨J, J⟩) ?_
      refine Zx 62 (none) (i := 6) J J J J J (Ym (xs := [.tmp 56, .tmp 57, .tmp 61]) J J (HP) by1 ⟨J, J⟩) ?_
      refine Zx 55 (none) (i := 7) J J J J J (Zd J J ⟨J, J⟩) ?_
      refine Zx 63 (none) (i := 8) J J J J J (Yw J J J ⟨J, J⟩) ?_
      refine Zx 64 (none) (i := 9) J J J J J (Yw J J J ⟨J, J⟩) ?_
      refine EOps.nw (i := 10) J J J (Zw (cs' := [_, _, _, _]) J tz_30 J J (fun b13 => ⟨_, J, ?_⟩))
      refine Xm 2 (i := 11) J J J J J (Zm (cs' := [_, _, _, _]) (i := 0) J ts_30 J J J J J (Uc J) J ⟨_, J, ?_⟩)
      refine Zx 14 (none) (i := 12) J J J J J (Ze J J ⟨J, J⟩) ?_
      show AGo _ _ _ _ _ _ _
      refine Zb (Zg (Zc ?_))
      refine Za 65 J J J (Zd J J ?_)
      refine Vp (Zb ?_)
      rcases c14 with _ | _
      ·refine Zn J (Zt ?_)
       refine Yr ?_
       refine Zb (Zc ?_)
       refine Za 53 J J J (Zd J J ?_)
       refine Za 54 J J J (Ys J J J (Ug _ (by omega)) ?_)
       refine Za 12 J J J (Ze J J ?_)
       refine Vp ?_
       refine Yx ?_
       first
       | exact ⟨(k + 1, acc ++ [Pf.mk zk zn zc zl], u69), ⟨by show k + 1 ≤ l.length; omega, by show acc ++ _ = _; rw [hsq, List.filter_append, List.map_append, ← ha]; simp [hy]⟩, by show l.length - (k + 1) < l.length - k; omega, Vz rfl (Vw _) (Vz rfl (Ub (by rw [Pf.cellss_app']; rfl)) by4), by3⟩
       | exact ⟨(k + 1, acc, u), ⟨by show k + 1 ≤ l.length; omega, by show acc = _; rw [hsq, List.filter_append, List.map_append, ← ha]; simp [hy]⟩, by show l.length - (k + 1) < l.length - k; omega, by4, by3⟩
      ·refine Zq J (Zc ?_)
       refine Za 66 J J J (Zd J J ?_)
       refine Za 67 J J J (Zy (cs' := [_, _, _, _]) (i := 2) J Wz J J J J ?_)
       refine Za 68 J J J (Ye (xs := [.tmp 67]) el_28 J J J J J J (Uc J) ?_)
       refine Za 69 J J J (Xi (i := 1) el_28 J J J J (.seq _ _) by6 ?_)
       intro u69
       refine Za 11 J J J (Ze J J ?_)
       refine Vp ?_
       refine Yr ?_
       refine Zb (Zc ?_)
       refine Za 53 J J J (Zd J J ?_)
       refine Za 54 J J J (Ys J J J (Ug _ (by omega)) ?_)
       refine Za 12 J J J (Ze J J ?_)
       refine Vp ?_
       refine Yx ?_
       first
       | exact ⟨(k + 1, acc ++ [Pf.mk zk zn zc zl], u69), ⟨by show k + 1 ≤ l.length; omega, by show acc ++ _ = _; rw [hsq, List.filter_append, List.map_append, ← ha]; simp [hy]⟩, by show l.length - (k + 1) < l.length - k; omega, Vz rfl (Vw _) (Vz rfl (Ub (by rw [Pf.cellss_app']; rfl)) by4), by3⟩
       | exact ⟨(k + 1, acc, u), ⟨by show k + 1 ≤ l.length; omega, by show acc = _; rw [hsq, List.filter_append, List.map_append, ← ha]; simp [hy]⟩, by show l.length - (k + 1) < l.length - k; omega, by4, by3⟩
  ·refine Zq J (Zt (Zb (Zg (Zz (Zg ?_)))))
   obtain ⟨⟨gc, ⟨gtk, gts, gtn, gtl⟩⟩, hxg⟩ := Yu (l := gs) (i := i) by7
   have hcg := Pr.cellss_get hxg
   have hmg := Uh hxg
   rw [Xo hxg, findI] at hf
   have HGg := HG (Pr.mk gc ⟨gtk, gts, gtn, gtl⟩)
   simp only [Ty.cells] at HGg
   refine Ve Wm J ?_
   refine Zs 22 J J (Zd J J ⟨J, J⟩) ?_
   refine Zs 23 J J (Zd J J ⟨J, J⟩) ?_
   refine Zs 24 J J (Yd J te_22 J (.seq _ _) J J (hcg) ⟨J, J⟩) ?_
   refine Zs 25 J J (Yc (cs' := [_, _, _, _, _]) J ta_27 J J J ⟨J, J⟩) ?_
   refine Zs 26 J J (Yc (cs' := [_, _, _, _, _]) J ta_27 J J J ⟨J, J⟩) ?_
   refine Wa 27 J J (fun _ q => Yf (xs := [.tmp 25, .tmp 26]) J J (HGg) by1 q) ?_; intro c27 h27
   show AGo _ _ _ _ _ _ _
   refine Zb ?_
   rcases Zh h27 with ⟨rfl, g27⟩ | ⟨rfl, g27⟩
   ·refine Zn J (Zt ?_)
    refine Yr ?_
    refine Zb (Zc ?_)
    refine Za 20 J J J (Zd J J ?_)
    refine Za 21 J J J (Ys J J J (Ug _ (by omega)) ?_)
    refine Za 8 J J J (Ze J J ?_)
    refine Vp ?_
    refine Yx ?_
    rw [if_neg (fun q => g27 ((hgq _).1 q))] at hf; exact ⟨i + 1, ⟨by show i + 1 ≤ gs.length; omega, hf⟩, by show gs.length - (i + 1) < gs.length - i; omega, by4, by3⟩
   ·refine Zq J (Zg (Zc ?_))
    refine Za 28 J J J (Zd J J ?_)
    refine Za 29 J J J (Yk (ns := [0, 1]) (xs := [.const (.int .i64 1), .tmp 28]) J tz_30 J tfl_30 J J J J ?_)
    refine Zo J J (Zm (cs' := [_, _, _, _]) (i := 0) J ts_30 J J J J J (Uc J) J ?_)
    refine Za 7 J J J (Ze J J ?_)
    refine Vp (Zb ?_)
    refine Ya ?_
    rw [if_pos ((hgq _).2 g27)] at hf
    subst hf
    rw [if_pos (by omega)] at hr
    cases hr
    exact Wq (i := 0) J J J J Wz J by0 (Vr _) ⟨J, J⟩
end Go.Proofs.YtknodnfbaofngaaGreat
namespace Go.Proofs.YtknodnfbaofngaaGreat
def srcB : ByteArray := ⟨#[100, 97, 116, 97, 32, 76, 105, 115, 116, 32, 97, 32, 61, 32, 78, 105, 108, 32, 124, 32, 67, 111, 110, 115, 32, 97, 32, 40, 76, 105, 115, 116, 32, 97, 41, 59, 32, 99, 108, 97, 115, 115, 32, 69, 113, 32, 97, 32, 119, 104, 101, 114, 101, 32, 101, 110, 100, 59, 32, 99, 108, 97, 115, 115, 32, 79, 114, 100, 32, 97, 32, 102, 114, 111, 109, 32, 69, 113, 32, 119, 104, 101, 114, 101, 32, 101, 110, 100, 59, 32, 105, 110, 115, 116, 97, 110, 99, 101, 32, 69, 113, 32, 73, 110, 116, 32, 119, 104, 101, 114, 101, 32, 101, 110, 100, 59, 32, 105, 110, 115, 116, 97, 110, 99, 101, 32, 69, 113, 32, 40, 76, 105, 115, 116, 32, 97, 41, 32, 102, 114, 111, 109, 32, 69, 113, 32, 97, 32, 119, 104, 101, 114, 101, 32, 101, 110, 100, 59, 32, 105, 110, 115, 116, 97, 110, 99, 101, 32, 79, 114, 100, 32, 40, 76, 105, 115, 116, 32, 97, 41, 32, 102, 114, 111, 109, 32, 79, 114, 100, 32, 97, 32, 119, 104, 101, 114, 101, 32, 101, 110, 100, 59]⟩
open Go.RowKit
def tyv (s : ByteArray) : Ty := .mk 1 s 0 []
def tyc (s : ByteArray) (l : List Ty) : Ty := .mk 3 s 0 l
abbrev sList : ByteArray := ⟨#[76, 105, 115, 116]⟩
abbrev sNil : ByteArray := ⟨#[78, 105, 108]⟩
abbrev sCons : ByteArray := ⟨#[67, 111, 110, 115]⟩
abbrev sa : ByteArray := ⟨#[97]⟩
abbrev sEq : ByteArray := ⟨#[69, 113]⟩
abbrev sOrd : ByteArray := ⟨#[79, 114, 100]⟩
abbrev sInt : ByteArray := ⟨#[73, 110, 116]⟩
def srcPg : Pg := .mk
 [.mk sList [sa] [.mk sNil [] 14, .mk sCons [tyv sa, tyc sList [tyv sa]] 20] [] 5]
 [.mk sEq sa [] [] [] 43, .mk sOrd sa [sEq] [] [] 65]
 [.mk sEq (tyc sInt []) [] [] 99, .mk sEq (tyc sList [tyv sa]) [.mk sEq (tyv sa)] [] 126, .mk sOrd (tyc sList [tyv sa]) [.mk sOrd (tyv sa)] [] 168] []
set_option maxRecDepth 100000 in
theorem src_pg : progT srcB = (srcPg, 0, 0) := by kernel_rfl
set_option maxRecDepth 100000 in
theorem src_check : checkR srcPg = (0, 0) := by kernel_rfl
section
variable {P : Program} {l : List Oper} {ws : List Nat} {anc : List (List Nat)} {QQ : Sl → Mem → Prop} {ord : List Nat} {al : Sl} {M : Mem} {L : List (Nat × Nat)} {o : Oper}
theorem EOps.dg {v : AV} {i j : Nat} {b : Bool} {t : Tmp} (d : Nat) (fp : Option Nat) (hi : l[i]? = some o) (hw : ws.contains i = false) (hg : o.guard = some (j, b)) (hj : (l[j]?).bind (·.dst) = some t) (hc : al.lookup t = some (.val (.bool b))) (hd : o.dst = some d) (hfp : fp.all (fun k => Nat.blt k M.length) = true) (h : OpT P { o with guard := none } (al.only (Oper.tmps o)) (fpm M fp) (fun v' M' => v' = v ∧ M' = fpm M fp)) (q : EOps P l ws anc QQ ord ((d, v) :: al) M ((fp.toList.map fun k => (i, k)) ++ L)) : EOps P l ws anc QQ (i :: ord) al M L :=
 ⟨o, hi, by rw [if_neg (by rw [hw]; simp)]; exact ⟨fp, v, hfp, by unfold DStep; rw [hg]; exact ⟨t, hj, .inl ⟨hc, h⟩⟩, by rw [hd]; exact q⟩⟩
theorem EOps.cmg {i j : Nat} {b : Bool} {t : Tmp} {p : Prop} (d : Nat) (hi : l[i]? = some o) (hw : ws.contains i = false) (hg : o.guard = some (j, b)) (hj : (l[j]?).bind (·.dst) = some t) (hc : al.lookup t = some (.val (.bool b))) (hd : o.dst = some d) (h : ∀ K : AV → Mem → Prop, (∀ c : Bool, (c = true ↔ p) → K (.val (.bool c)) []) → OpT P { o with guard := none } (al.only (Oper.tmps o)) [] K) (q : ∀ c : Bool, (c = true ↔ p) → EOps P l ws anc QQ ord ((d, .val (.bool c)) :: al) M L) : EOps P l ws anc QQ (i :: ord) al M L := by
 have : ∃ c : Bool, c = true ↔ p := by
  by_cases hp : p
  ·exact ⟨true, by simp [hp]⟩
  ·exact ⟨false, by simp [hp]⟩
 obtain ⟨c, hq⟩ := this
 refine EOps.dg d none hi hw hg hj hc hd J (h _ (fun c' hc' => ⟨?_, J⟩)) (q c hq)
 have : c' = c := by cases c <;> cases c' <;> simp_all
 rw [this]
theorem EOps.df {i j : Nat} {b : Bool} {t : Tmp} (d : Nat) (hi : l[i]? = some o) (hw : ws.contains i = false) (hg : o.guard = some (j, b)) (hj : (l[j]?).bind (·.dst) = some t) (hc : al.lookup t = some (.val (.bool !b))) (hd : o.dst = some d) (q : EOps P l ws anc QQ ord ((d, .val undef) :: al) M L) : EOps P l ws anc QQ (i :: ord) al M L :=
 ⟨o, hi, by rw [if_neg (by rw [hw]; simp)]; exact ⟨none, .val undef, rfl, by unfold DStep; rw [hg]; exact ⟨t, hj, .inr ⟨.inl hc, rfl⟩⟩, by rw [hd]; exact q⟩⟩
end
def psC (L : List Tok) (p : PS) : List AV := [.seq 4 (L.map Tok.av), .val (.int .i64 p.at_), .val (.int .i64 p.lv), .val (.int .i64 p.e), .val (.int .i64 p.wh)]
set_option maxHeartbeats 4000000 in
set_option maxRecDepth 100000 in
theorem next_c (b : Nat) (L : List Tok) (p : PS) : KCall Tryz.prog 50 [.ptr b 0] [.loc b (psC L p)] (.agg (nxt L p).av) := by
 obtain ⟨a, lv, e, wh⟩ := p
 have hl : (L.map Tok.av).length = L.length := List.length_map _
 simp only [psC]
 refine Zv Tryz.func50 J (by kernel_rfl) J (Uc J) ?_
 refine Yg ?_
 refine Zg (Zc ?_)
 refine Za 2 J J J (Zw (cs' := [_, _, _, _]) J Wh J J ?_); intro b2
 refine Vp (Zb (Zg (Zg ?_)))
 refine c_boold 19 (e ≠ 0 ∨ L.length ≤ a) Wm J ?_ _ _ J ?_
 ·skip
  refine Zs 3 J J (Zd J J ⟨J, J⟩) ?_
  refine Zs 4 J J (Yl J J ⟨J, J⟩) ?_
  refine Zs 5 J J (Zf J Vl J ⟨J, J⟩) ?_
  refine Zs 6 J J (Zl (i := 1) J Xh J J J ⟨J, J⟩) ?_
  refine Wa 7 J J (fun _ q => Xv J J J q) ?_; intro c7 h7
  refine Zs 8 J J (Zd J J ⟨J, J⟩) ?_
  rcases Zh h7 with ⟨rfl, g7⟩ | ⟨rfl, g7⟩
  ·skip
   refine Yb 9 J J J J (Zd J J ⟨J, J⟩) ?_
   refine Yb 10 J J J J (Yl J J ⟨J, J⟩) ?_
   refine Yb 11 J J J J (Zf J tf_95_1 J ⟨J, J⟩) ?_
   refine Yb 12 J J J J (Zl (i := 1) J Xh J J J ⟨J, J⟩) ?_
   refine Yb 13 J J J J (Zd J J ⟨J, J⟩) ?_
   refine Yb 14 J J J J (Yl J J ⟨J, J⟩) ?_
   refine Yb 15 J J J J (Zf J tf_95_0 J ⟨J, J⟩) ?_
   refine Yb 16 J J J J (Zl (i := 1) J ta_93 J J J ⟨J, J⟩) ?_
   refine Yb 17 J J J J (Yy J tu_93 J (.seq _ _) (fun _ => ⟨J, J⟩)) ?_
   refine Wf 18 J J J J (fun _ q => Wj J J J q) ?_; intro c18 h18
   refine Zs 19 J J (Zp J J J ⟨J, J⟩) ?_
   show BoolQ _ _ _ _ _ _
   refine Ua J ?_ by5 by3
   simp_all; done
  ·skip
   refine Zu 9 J J J J ?_
   refine Zu 10 J J J J ?_
   refine Zu 11 J J J J ?_
   refine Zu 12 J J J J ?_
   refine Zu 13 J J J J ?_
   refine Zu 14 J J J J ?_
   refine Zu 15 J J J J ?_
   refine Zu 16 J J J J ?_
   refine Zu 17 J J J J ?_
   refine Zu 18 J J J J ?_
   refine Zs 19 J J (Zp J J J ⟨J, J⟩) ?_
   show BoolQ _ _ _ _ _ _
   refine Ua J ?_ by5 by3
   simp_all; done
 intro c19 h19
 refine Zb ?_
 rcases Zh h19 with ⟨rfl, g19⟩ | ⟨rfl, g19⟩
 ·refine Zn J (Zt (Zb (Zg ?_)))
  obtain ⟨t, ht⟩ := Yu (l := L) (i := a) (by omega)
  have htc : (L.map Tok.av)[a]? = some t.av := by rw [List.getElem?_map, ht]; rfl
  refine Xs [0, 1, 2, 3, 4, 5, 6, 7, 8, 9, 10] [10] [[], [0], [0, 1], [0, 1, 2], [], [4], [4, 5], [4, 5, 6], [0, 1, 2, 3, 4, 5, 6, 7], [0, 1, 2, 3, 4, 5, 6, 7, 8], [0, 1, 2, 3, 4, 5, 6, 7, 8, 9]] Wm J ?_
  refine Zx 21 (none) (i := 0) J J J J J (Zd J J ⟨J, J⟩) ?_
  refine Zx 22 (none) (i := 1) J J J J J (Yl J J ⟨J, J⟩) ?_
  refine Zx 23 (none) (i := 2) J J J J J (Zf J tf_95_0 J ⟨J, J⟩) ?_
  refine Zx 24 (some 1) (i := 3) J J J J J (Zl (i := 0) J ta_93 J J J ⟨J, J⟩) ?_
  refine Zx 25 (none) (i := 4) J J J J J (Zd J J ⟨J, J⟩) ?_
  refine Zx 26 (none) (i := 5) J J J J J (Yl J J ⟨J, J⟩) ?_
  refine Zx 27 (none) (i := 6) J J J J J (Zf J tf_95_1 J ⟨J, J⟩) ?_
  refine Zx 28 (some 1) (i := 7) J J J J J (Zl (i := 0) J Xh J J J ⟨J, J⟩) ?_
  refine Zx 29 (none) (i := 8) J J J J J (Yd J te_93 J (.seq _ _) J J (htc) ⟨J, J⟩) ?_
  refine Zx 30 (none) (i := 9) J J J J J (Yc (cs' := [_, _, _, _]) J Yq J J J ⟨J, J⟩) ?_
  refine Xm 0 (i := 10) J J J J J (Zm (cs' := [_, _, _, _]) (i := 0) J Xl J J J J J (Uc J) J ⟨_, J, ?_⟩)
  show AGo _ _ _ _ _ _ _
  refine Zb ?_
  refine Ya ?_
  first | refine Yj (i := 0) J J J Yq J (Vw _) by3 ⟨?_, J⟩ | refine Yj (i := 1) J J J Yq J (Vw _) by3 ⟨?_, J⟩
  have hn : nxt L ⟨a, lv, e, wh⟩ = t := by
   unfold nxt
   rw [if_neg (fun q => g19 (.inl q)), ht]; rfl
  rw [hn]; rfl
 ·refine Zq J (Zg (Zc ?_))
  refine Za 20 J J J (Yk (ns := []) (xs := []) J Wh J tfl_97 J J J J ?_)
  refine Zo J J (Zm (cs' := [_, _, _, _]) (i := 0) J Xl J J J J J (Uc J) J ?_)
  refine Vp (Zb ?_)
  refine Ya ?_
  first | refine Yj (i := 0) J J J Yq J (Vw _) by3 ⟨?_, J⟩ | refine Yj (i := 1) J J J Yq J (Vw _) by3 ⟨?_, J⟩
  have hn : nxt L ⟨a, lv, e, wh⟩ = tok0 0 := by
   unfold nxt
   by_cases q : e ≠ 0
   ·rw [if_pos q]
   ·rw [if_neg q, List.getElem?_eq_none (g19.resolve_left q)]; rfl
  rw [hn]; rfl
set_option maxHeartbeats 4000000 in
set_option maxRecDepth 100000 in
theorem is_p (b : Nat) (L : List Tok) (p : PS) (s : ByteArray) : KBCall Tryz.prog 80 [.ptr b 0, .val (.string s)] [.loc b (psC L p)] (isP L p s = true) := by
 have HN := next_c b L p
 have hI : isP L p s = true ↔ (6 ≤ (nxt L p).k ∧ (nxt L p).t = s) := by unfold isP; simp
 generalize isP L p s = c at *
 generalize nxt L p = t at *
 obtain ⟨tk, tt, tn, ta⟩ := t
 simp only [Tok.av] at HN hI
 refine Zv Tryz.func80 J (by kernel_rfl) J (Uc J) ?_
 refine Yg ?_
 refine Zg (Zc ?_)
 refine Za 4 J J J (Ze J J ?_)
 refine Vp (Zb (Zg (Zc ?_)))
 refine Za 6 J J J (Zd J J ?_)
 refine Za 7 J J J (Wp (xs := [.tmp 6]) [0] J J J (HN) by1 ?_)
 refine Za 5 J J J (Zw (cs' := [_, _, _, _]) J Wh J J ?_); intro b5
 refine Zo J J (Zm (cs' := [_, _, _, _]) (i := 0) J Xl J J J J J (Uc J) J ?_)
 refine Vp (Zb (Zg ?_))
 refine Xk 4 (6 ≤ tk ∧ tt = s) ?_ _ _ J ?_
 ·skip
  refine Za 8 J J J (Zf J Xd J ?_)
  refine Za 9 J J J (Zl (i := 0) J Xh J J J ?_)
  refine Za 10 J J J (Wj J J J ?_); intro c10 h10
  refine Za 11 J J J (Zd J J ?_)
  rcases Zh h10 with ⟨rfl, g10⟩ | ⟨rfl, g10⟩
  ·skip
   refine Zi 12 J J J J J ?_
   refine Zi 13 J J J J J ?_
   refine Zi 14 J J J J J ?_
   refine Zi 15 J J J J J ?_
   refine Za 16 J J J (Zp J J J ?_)
   refine Za 4 J J J (Ze J J ?_)
   refine Vp ?_
   refine Ua J ?_ by5 by3
   clear HN hI; first | (simp_all; done) | grind
  ·skip
   refine Zk 12 J J J J J (Zf J Xf J ?_)
   refine Zk 13 J J J J J (Zl (i := 0) J Xc J J J ?_)
   refine Zk 14 J J J J J (Zd J J ?_)
   refine Zk 15 J J J J J (Xr J J J ?_); intro c15 h15
   refine Za 16 J J J (Zp J J J ?_)
   refine Za 4 J J J (Ze J J ?_)
   refine Vp ?_
   refine Ua J ?_ by5 by3
   clear HN hI; first | (simp_all; done) | grind
 intro c4 h4
 refine Zb ?_
 refine Ya ?_
 exact Yi J J (Vw _) by3 ⟨⟨_, h4.trans hI.symm, J⟩, J⟩
set_option maxHeartbeats 4000000 in
set_option maxRecDepth 100000 in
theorem fail_c (b : Nat) (L : List Tok) (p : PS) (e wh : Int) : MCall Tryz.prog 79 [.ptr b 0, .val (.int .i64 e), .val (.int .i64 wh)] (.loc b (psC L p)) (.tup []) (.loc b (psC L (failP p e wh))) := by
 obtain ⟨a, lv, e0, wh0⟩ := p
 have hf : failP ⟨a, lv, e0, wh0⟩ e wh = if e0 = 0 then ⟨a, lv, e, wh⟩ else ⟨a, lv, e0, wh0⟩ := rfl
 rw [hf]
 simp only [psC]
 refine Zv Tryz.func79 J (by kernel_rfl) J (Uc J) ?_
 refine Yg ?_
 refine Zg (Zc ?_)
 refine Za 6 J J J (Zd J J ?_)
 refine Za 7 J J J (Yl J J ?_)
 refine Za 8 J J J (Zf J Vl J ?_)
 refine Za 9 J J J (Zl (i := 0) J Xh J J J ?_)
 refine Za 10 J J J (Yv J J J ?_); intro c10 h10
 refine Vp (Zb ?_)
 rcases Zh h10 with ⟨rfl, g10⟩ | ⟨rfl, g10⟩
 ·refine Zn J (Zt ?_)
  refine go_end ?_
  exact out_none J (Vv (by simp [g10] <;> rfl)) ⟨J, J⟩
 ·refine Zq J (Zg (Zc ?_))
  refine Za 11 J J J (Zd J J ?_)
  refine Za 12 J J J (Zd J J ?_)
  refine Za 13 J J J (Yl J J ?_)
  refine Za 14 J J J (Zf J Vl J ?_)
  refine Zo J J (Zm (i := 0) J Wi J J J J J (Uc J) J ?_)
  refine Vp (Zb (Zc ?_))
  refine Za 15 J J J (Zd J J ?_)
  refine Za 16 J J J (Zd J J ?_)
  refine Za 17 J J J (Yl J J ?_)
  refine Za 18 J J J (Zf J tf_95_4 J ?_)
  refine Zo J J (Zm (i := 0) J Wi J J J J J (Uc J) J ?_)
  refine Vp ?_
  refine go_end ?_
  exact out_none J (Vv (by simp [g10] <;> rfl)) ⟨J, J⟩
set_option maxHeartbeats 4000000 in
set_option maxRecDepth 100000 in
theorem take_c (b : Nat) (L : List Tok) (hL : L.length ≤ 100000) (p : PS) (hp : p.at_ ≤ L.length) (kind : Int) (s : ByteArray) : MCall Tryz.prog 55 [.ptr b 0, .val (.int .i64 kind), .val (.string s)] (.loc b (psC L p)) (.agg (takeP L p kind s).1.av) (.loc b (psC L (takeP L p kind s).2)) := by
 have HN := next_c b L p
 have HF := fail_c b L p 110 (nxt L p).a
 obtain ⟨t, ht⟩ : ∃ t, nxt L p = t := ⟨_, rfl⟩
 obtain ⟨r, hr⟩ : ∃ r, takeP L p kind s = r := ⟨_, rfl⟩
 have hr0 := hr
 unfold takeP at hr
 rw [ht] at HN HF hr
 rw [hr0]
 obtain ⟨a, lv, e0, wh0⟩ := p
 obtain ⟨tk, tt, tn, ta⟩ := t
 have hp : a ≤ L.length := hp
 simp only [psC, Tok.av] at HN HF hr ⊢
 refine Zv Tryz.func55 J (by kernel_rfl) J (Uc J) ?_
 refine Yg ?_
 refine Zg (Zc ?_)
 refine Za 6 J J J (Zw (cs' := [_, _, _, _]) J Wh J J ?_); intro b6
 refine Vp (Zb (Zg (Zc ?_)))
 refine Za 8 J J J (Zd J J ?_)
 refine Za 9 J J J (Wp (xs := [.tmp 8]) [1] J J J (HN) by1 ?_)
 refine Za 7 J J J (Zw (cs' := [_, _, _, _]) J Wh J J ?_); intro b7
 refine Zo J J (Zm (cs' := [_, _, _, _]) (i := 0) J Xl J J J J J (Uc J) J ?_)
 refine Vp (Zb (Zg (Zg (Zc ?_))))
 refine Za 10 J J J (Zd J J ?_)
 refine Za 11 J J J (Yl J J ?_)
 refine Za 12 J J J (Zf J Vl J ?_)
 refine Za 13 J J J (Zl (i := 2) J Xh J J J ?_)
 refine Za 14 J J J (Xv J J J ?_); intro c14 h14
 refine Vp (Zb ?_)
 rcases Zh h14 with ⟨rfl, g14⟩ | ⟨rfl, g14⟩
 ·refine Zn J (Zt (Zb (Zg (Zg ?_))))
  refine Xk 38 ((kind < 6 ∧ tk ≠ kind) ∨ (6 ≤ kind ∧ (tk < 6 ∨ tt ≠ s))) ?_ _ _ J ?_
  ·skip
   refine Za 16 J J J (Zd J J ?_)
   refine Za 17 J J J (Yt J J J ?_); intro c17 h17
   refine Za 18 J J J (Zd J J ?_)
   rcases Zh h17 with ⟨rfl, g17⟩ | ⟨rfl, g17⟩
   ·skip
    refine Zi 19 J J J J J ?_
    refine Zi 20 J J J J J ?_
    refine Zi 21 J J J J J ?_
    refine Zi 22 J J J J J ?_
    refine Za 23 J J J (Zp J J J ?_)
    refine Za 24 J J J (Zd J J ?_)
    refine Zk 25 J J J J J (Zd J J ?_)
    refine Zk 26 J J J J J (Wj J J J ?_); intro c26 h26
    refine Zk 27 J J J J J (Zd J J ?_)
    rcases Zh h26 with ⟨rfl, g26⟩ | ⟨rfl, g26⟩
    ·skip
     refine Zi 28 J J J J J ?_
     refine Zi 29 J J J J J ?_
     refine Zi 30 J J J J J ?_
     refine Zi 31 J J J J J ?_
     refine Yp 32 J J J J J ?_
     refine Yp 33 J J J J J ?_
     refine Yp 34 J J J J J ?_
     refine Yp 35 J J J J J ?_
     refine Zi 36 J J J J J ?_
     refine Zk 37 J J J J J (Zp J J J ?_)
     refine Za 38 J J J (Zp J J J ?_)
     refine Vp ?_
     refine Ua J ?_ by5 by3
     clear HN HF hr; first | (simp_all; done) | grind
    ·skip
     refine Zk 28 J J J J J (Zf J Xd J ?_)
     refine Zk 29 J J J J J (Zl (i := 0) J Xh J J J ?_)
     refine Zk 30 J J J J J (Yt J J J ?_); intro c30 h30
     refine Zk 31 J J J J J (Zd J J ?_)
     rcases Zh h30 with ⟨rfl, g30⟩ | ⟨rfl, g30⟩
     ·skip
      refine Zk 32 J J J J J (Zf J Xf J ?_)
      refine Zk 33 J J J J J (Zl (i := 0) J Xc J J J ?_)
      refine Zk 34 J J J J J (Zd J J ?_)
      refine Zk 35 J J J J J (op_sneq J J J ?_); intro c35 h35
      refine Zk 36 J J J J J (Zp J J J ?_)
      refine Zk 37 J J J J J (Zp J J J ?_)
      refine Za 38 J J J (Zp J J J ?_)
      refine Vp ?_
      refine Ua J ?_ by5 by3
      clear HN HF hr; first | (simp_all; done) | grind
     ·skip
      refine Zi 32 J J J J J ?_
      refine Zi 33 J J J J J ?_
      refine Zi 34 J J J J J ?_
      refine Zi 35 J J J J J ?_
      refine Zk 36 J J J J J (Zp J J J ?_)
      refine Zk 37 J J J J J (Zp J J J ?_)
      refine Za 38 J J J (Zp J J J ?_)
      refine Vp ?_
      refine Ua J ?_ by5 by3
      clear HN HF hr; first | (simp_all; done) | grind
   ·skip
    refine Zk 19 J J J J J (Zf J Xd J ?_)
    refine Zk 20 J J J J J (Zl (i := 0) J Xh J J J ?_)
    refine Zk 21 J J J J J (Zd J J ?_)
    refine Zk 22 J J J J J (Xv J J J ?_); intro c22 h22
    refine Za 23 J J J (Zp J J J ?_)
    refine Za 24 J J J (Zd J J ?_)
    rcases Zh h22 with ⟨rfl, g22⟩ | ⟨rfl, g22⟩
    ·skip
     refine Zk 25 J J J J J (Zd J J ?_)
     refine Zk 26 J J J J J (Wj J J J ?_); intro c26 h26
     refine Zk 27 J J J J J (Zd J J ?_)
     rcases Zh h26 with ⟨rfl, g26⟩ | ⟨rfl, g26⟩
     ·skip
      refine Zi 28 J J J J J ?_
      refine Zi 29 J J J J J ?_
      refine Zi 30 J J J J J ?_
      refine Zi 31 J J J J J ?_
      refine Yp 32 J J J J J ?_
      refine Yp 33 J J J J J ?_
      refine Yp 34 J J J J J ?_
      refine Yp 35 J J J J J ?_
      refine Zi 36 J J J J J ?_
      refine Zk 37 J J J J J (Zp J J J ?_)
      refine Za 38 J J J (Zp J J J ?_)
      refine Vp ?_
      refine Ua J ?_ by5 by3
      clear HN HF hr; first | (simp_all; done) | grind
     ·skip
      refine Zk 28 J J J J J (Zf J Xd J ?_)
      refine Zk 29 J J J J J (Zl (i := 0) J Xh J J J ?_)
      refine Zk 30 J J J J J (Yt J J J ?_); intro c30 h30
      refine Zk 31 J J J J J (Zd J J ?_)
      rcases Zh h30 with ⟨rfl, g30⟩ | ⟨rfl, g30⟩
      ·skip
       refine Zk 32 J J J J J (Zf J Xf J ?_)
       refine Zk 33 J J J J J (Zl (i := 0) J Xc J J J ?_)
       refine Zk 34 J J J J J (Zd J J ?_)
       refine Zk 35 J J J J J (op_sneq J J J ?_); intro c35 h35
       refine Zk 36 J J J J J (Zp J J J ?_)
       refine Zk 37 J J J J J (Zp J J J ?_)
       refine Za 38 J J J (Zp J J J ?_)
       refine Vp ?_
       refine Ua J ?_ by5 by3
       clear HN HF hr; first | (simp_all; done) | grind
      ·skip
       refine Zi 32 J J J J J ?_
       refine Zi 33 J J J J J ?_
       refine Zi 34 J J J J J ?_
       refine Zi 35 J J J J J ?_
       refine Zk 36 J J J J J (Zp J J J ?_)
       refine Zk 37 J J J J J (Zp J J J ?_)
       refine Za 38 J J J (Zp J J J ?_)
       refine Vp ?_
       refine Ua J ?_ by5 by3
       clear HN HF hr; first | (simp_all; done) | grind
    ·skip
     refine Zi 25 J J J J J ?_
     refine Zi 26 J J J J J ?_
     refine Zi 27 J J J J J ?_
     refine Yp 28 J J J J J ?_
     refine Yp 29 J J J J J ?_
     refine Yp 30 J J J J J ?_
     refine Yp 31 J J J J J ?_
     refine Yp 32 J J J J J ?_
     refine Yp 33 J J J J J ?_
     refine Yp 34 J J J J J ?_
     refine Yp 35 J J J J J ?_
     refine Yp 36 J J J J J ?_
     refine Zi 37 J J J J J ?_
     refine Za 38 J J J (Zp J J J ?_)
     refine Vp ?_
     refine Ua J ?_ by5 by3
     clear HN HF hr; first | (simp_all; done) | grind
  intro c38 h38
  refine Zb ?_
  rcases Zh h38 with ⟨rfl, g38⟩ | ⟨rfl, g38⟩
  ·refine Zn J (Zt (Zb (Zg (Zc ?_))))
   refine Za 44 J J J (Zd J J ?_)
   refine Za 45 J J J (Yl J J ?_)
   refine Za 46 J J J (Zf J tf_95_1 J ?_)
   refine Za 47 J J J (Zl (i := 2) J Xh J J J ?_)
   refine Za 48 J J J (Ys J J J (Ug _ (by omega)) ?_)
   refine Za 49 J J J (Yl J J ?_)
   refine Za 50 J J J (Zf J tf_95_1 J ?_)
   refine Zo J J (Zm (i := 2) J Wi J J J J J (Uc J) J ?_)
   refine Vp (Zb (Zg (Zc ?_)))
   refine Za 51 J J J (Zy (cs' := [_, _, _, _]) (i := 0) J Yq J J J J ?_)
   refine Zo J J (Zm (cs' := [_, _, _, _]) (i := 1) J Xl J J J J J (Uc J) J ?_)
   refine Vp (Zb ?_)
   refine Ya ?_
   rw [if_neg g14, if_neg g38] at hr; subst hr; exact Yj (i := 1) rfl rfl rfl Yq rfl (Vw _) (Vt _ (Vt _ (Vv rfl))) ⟨rfl, rfl⟩
  ·refine Zq J (Zg (Zc ?_))
   refine Za 39 J J J (Zd J J ?_)
   refine Za 40 J J J (Zf J Wv J ?_)
   refine Za 41 J J J (Zl (i := 0) J Xh J J J ?_)
   refine Za 42 J J J (Yh (xs := [.tmp 39, .const (.int .i64 110), .tmp 41]) (i := 2) J J J (HF) by1 ?_)
   refine Vp (Zb (Zg (Zc ?_)))
   refine Za 43 J J J (Yk (ns := []) (xs := []) J Wh J tfl_97 J J J J ?_)
   refine Zo J J (Zm (cs' := [_, _, _, _]) (i := 1) J Xl J J J J J (Uc J) J ?_)
   refine Vp (Zb ?_)
   refine Ya ?_
   rw [if_neg g14, if_pos g38] at hr; subst hr; exact Yj (i := 1) rfl rfl rfl Yq rfl (Vw _) by3 ⟨rfl, rfl⟩
 ·refine Zq J (Zg (Zc ?_))
  refine Za 15 J J J (Zy (cs' := [_, _, _, _]) (i := 0) J Yq J J J J ?_)
  refine Zo J J (Zm (cs' := [_, _, _, _]) (i := 1) J Xl J J J J J (Uc J) J ?_)
  refine Vp (Zb ?_)
  refine Ya ?_
  rw [if_pos g14] at hr; subst hr; exact Yj (i := 1) rfl rfl rfl Yq rfl (Vw _) by3 ⟨rfl, rfl⟩
set_option maxHeartbeats 4000000 in
set_option maxRecDepth 100000 in
theorem may_c (b : Nat) (L : List Tok) (hL : L.length ≤ 100000) (p : PS) (s : ByteArray) : MayCall Tryz.prog 51 [.ptr b 0, .val (.string s)] (.loc b (psC L p)) (isP L p s = true) (.loc b (psC L (stepP p))) := by
 have HI := is_p b L p s
 have hl := is_lt (L := L) (p := p) (s := s)
 obtain ⟨a, lv, e0, wh0⟩ := p
 simp only [psC] at HI hl ⊢
 refine Zv Tryz.func51 J (by kernel_rfl) J (Uc J) ?_
 refine Yg ?_
 refine Zg (Zc ?_)
 refine Za 4 J J J (Ze J J ?_)
 refine Vp (Zb (Zg (Zg (Zc ?_))))
 refine Za 5 J J J (Zd J J ?_)
 refine Za 6 J J J (Zd J J ?_)
 refine Za 7 J J J (op_callkb (xs := [.tmp 5, .tmp 6]) [0] J J J (HI) by1 ?_); intro c7 h7
 refine Za 8 J J J (Wn J J ?_); intro c8 h8
 try replace h8 := nott h8 h7
 refine Vp (Zb ?_)
 rcases Zh h8 with ⟨rfl, g8⟩ | ⟨rfl, g8⟩
 ·refine Zn J (Zt (Zb (Zg ?_)))
  have := hl (Classical.not_not.1 g8)
  refine Zc ?_
  refine Za 9 J J J (Zd J J ?_)
  refine Za 10 J J J (Yl J J ?_)
  refine Za 11 J J J (Zf J tf_95_1 J ?_)
  refine Za 12 J J J (Zl (i := 0) J Xh J J J ?_)
  refine Za 13 J J J (Ys J J J (Ug _ (by omega)) ?_)
  refine Za 14 J J J (Yl J J ?_)
  refine Za 15 J J J (Zf J tf_95_1 J ?_)
  refine Zo J J (Zm (i := 0) J Wi J J J J J (Uc J) J ?_)
  refine Vp (Zb (Zg (Zc ?_)))
  refine Za 4 J J J (Ze J J ?_)
  refine Vp (Zb ?_)
  refine Ya ?_
  exact Yi J J (Vw _) (Vv J) (.inl ⟨Classical.not_not.1 g8, J, J⟩)
 ·refine Zq J (Zg (Zc ?_))
  refine Za 4 J J J (Ze J J ?_)
  refine Vp (Zb ?_)
  refine Ya ?_
  exact Yi J J (Vw _) (Vq _) (.inr ⟨g8, J, J⟩)
set_option maxHeartbeats 4000000 in
set_option maxRecDepth 100000 in
theorem deeper_c (b : Nat) (L : List Tok) (p : PS) (h1 : 0 ≤ p.lv) (h2 : p.lv ≤ 1000) : MCall Tryz.prog 104 [.ptr b 0] (.loc b (psC L p)) (.tup []) (.loc b (psC L (deeperP L p))) := by
 have HN := next_c b L { p with lv := p.lv + 1 }
 have HF := fail_c b L { p with lv := p.lv + 1 } 111 (nxt L { p with lv := p.lv + 1 }).a
 obtain ⟨t, ht⟩ : ∃ t, nxt L { p with lv := p.lv + 1 } = t := ⟨_, rfl⟩
 obtain ⟨r, hr⟩ : ∃ r, deeperP L p = r := ⟨_, rfl⟩
 have hr0 := hr
 unfold deeperP at hr
 rw [ht] at HN HF hr
 rw [hr0]
 obtain ⟨a, lv, e0, wh0⟩ := p
 obtain ⟨tk, tt, tn, ta⟩ := t
 simp only [psC, Tok.av] at HN HF hr h1 h2 ⊢
 refine Zv Tryz.func104 J (by kernel_rfl) J (Uc J) ?_
 refine Yg ?_
 refine Zg (Zc ?_)
 refine Za 2 J J J (Zd J J ?_)
 refine Za 3 J J J (Yl J J ?_)
 refine Za 4 J J J (Zf J tf_95_2 J ?_)
 refine Za 5 J J J (Zl (i := 0) J Xh J J J ?_)
 refine Za 6 J J J (Ys J J J (Ug _ (by omega)) ?_)
 refine Za 7 J J J (Yl J J ?_)
 refine Za 8 J J J (Zf J tf_95_2 J ?_)
 refine Zo J J (Zm (i := 0) J Wi J J J J J (Uc J) J ?_)
 refine Vp (Zb (Zg (Zc ?_)))
 refine Za 9 J J J (Zd J J ?_)
 refine Za 10 J J J (Yl J J ?_)
 refine Za 11 J J J (Zf J tf_95_2 J ?_)
 refine Za 12 J J J (Zl (i := 0) J Xh J J J ?_)
 refine Za 13 J J J (Vc J J J ?_); intro c13 h13
 refine Vp (Zb ?_)
 rcases Zh h13 with ⟨rfl, g13⟩ | ⟨rfl, g13⟩
 ·refine Zn J (Zt ?_)
  refine go_end ?_
  rw [if_neg (by omega)] at hr; subst hr; exact out_none rfl (Vv rfl) ⟨rfl, rfl⟩
 ·refine Zq J (Zc ?_)
  refine Za 14 J J J (Zd J J ?_)
  refine Za 15 J J J (Zd J J ?_)
  refine Za 16 J J J (Wp (xs := [.tmp 15]) [0] J J J (HN) by1 ?_)
  refine Za 17 J J J (Va (ft := 3) (fo := 3) J (by kernel_rfl) Xh J J ?_)
  refine Za 18 J J J (Yh (xs := [.tmp 14, .const (.int .i64 111), .tmp 17]) (i := 0) J J J (HF) by1 ?_)
  refine Vp ?_
  refine go_end ?_
  rw [if_pos (by omega)] at hr; subst hr; exact out_none rfl (Vv rfl) ⟨rfl, rfl⟩
set_option maxHeartbeats 4000000 in
set_option maxRecDepth 100000 in
theorem pName_c (b : Nat) (L : List Tok) (hL : L.length ≤ 100000) (n : Nat) (p : PS) (k : POk L n p) : MCall Tryz.prog 84 [.ptr b 0] (.loc b (psC L p)) (.agg (nameP L p).1.av) (.loc b (psC L (nameP L p).2)) := by
 refine Zv Tryz.func84 J (by kernel_rfl) J (Uc J) ?_
 refine Yg ?_
 refine Zg (Zc ?_)
 refine Za 2 J J J (Zw (cs' := [_, _, _, _]) J Wh J J ?_); intro b2
 refine Vp (Zb (Zg (Zg (Zc ?_))))
 refine Za 4 J J J (Zd J J ?_)
 refine Za 5 J J J (op_mayc (xs := [.tmp 4, .const (.string ⟨#[40]⟩)]) (i := 1) J J J (may_c b L hL p kLP) by1 ?_ ?_)
 ·intro g5
  refine Vp (Zb ?_)
  refine Zq J ?_
  refine Zg ?_
  have a1 := Xn k g5
  have k1 := a1.ok k
  have a2 := Yn (kind := 5) (s := kE) (by decide) k1
  have k2 := a2.ok k1
  refine Zc ?_
  refine Za 6 J J J (Zd J J ?_)
  refine Za 7 J J J (Yh (xs := [.tmp 6, .const (.int .i64 5), .const (.string ⟨#[]⟩)]) (i := 1) J J J (take_c b L hL _ k1.1 5 kE) by1 ?_)
  refine Za 3 J J J (Zw (cs' := [_, _, _, _]) J Wh J J ?_); intro b3
  refine Zo J J (Zm (cs' := [_, _, _, _]) (i := 0) J Xl J J J J J (Uc J) J ?_)
  refine Vp (Zb (Zg (Zc ?_)))
  refine Za 8 J J J (Zd J J ?_)
  refine Za 9 J J J (Yh (xs := [.tmp 8, .const (.int .i64 7), .const (.string ⟨#[41]⟩)]) (i := 2) J J J (take_c b L hL _ k2.1 7 kRP) by1 ?_)
  refine Vp (Zb (Zg (Zc ?_)))
  refine Za 10 J J J (Zy (cs' := [_, _, _, _]) (i := 0) J Yq J J J J ?_)
  refine Zo J J (Zm (cs' := [_, _, _, _]) (i := 1) J Xl J J J J J (Uc J) J ?_)
  refine Vp (Zb ?_)
  refine Ya ?_
  rw [nameP, if_pos g5]; exact Yj (i := 1) rfl rfl rfl Yq rfl (Vw _) (Vt _ (Vt _ (Vv rfl))) ⟨rfl, rfl⟩
 ·intro g5
  refine Vp (Zb ?_)
  refine Zn J ?_
  refine Zt ?_
  refine Zb (Zg (Zc ?_))
  refine Za 11 J J J (Zd J J ?_)
  refine Za 12 J J J (Yh (xs := [.tmp 11, .const (.int .i64 1), .const (.string ⟨#[]⟩)]) (i := 1) J J J (take_c b L hL _ k.1 1 kE) by1 ?_)
  refine Zo J J (Zm (cs' := [_, _, _, _]) (i := 0) J Xl J J J J J (Uc J) J ?_)
  refine Vp (Zb ?_)
  refine Ya ?_
  rw [nameP, if_neg g5]; exact Yj (i := 0) rfl rfl rfl Yq rfl (Vw _) (Vt _ (Vv rfl)) ⟨rfl, rfl⟩
theorem uppersL_go {L : List Tok} {f : Nat} {p : PS} {acc : List ByteArray} (h : isP L p kComma = true) : uppersL L (f + 1) p acc = uppersL L f (takeP L (stepP p) 2 kE).2 (acc ++ [(takeP L (stepP p) 2 kE).1.t]) := by rw [uppersL, if_pos h]
theorem uppersL_end {L : List Tok} {f : Nat} {p : PS} {acc : List ByteArray} (h : ¬ isP L p kComma = true) : uppersL L f p acc = (acc, p) := by
 cases f with
 | zero => rfl
 | succ f => rw [uppersL, if_neg h]
set_option maxHeartbeats 4000000 in
set_option maxRecDepth 100000 in
theorem uppers_c (b : Nat) (L : List Tok) (hL : L.length ≤ 100000) (n : Nat) (p : PS) (k : POk L n p) : MCall Tryz.prog 83 [.ptr b 0] (.loc b (psC L p)) (.seq 1 (strs (uppersP L p).1)) (.loc b (psC L (uppersP L p).2)) := by
 have a1 := Yn (L := L) (kind := 2) (s := kE) (by decide) k
 have k1 := a1.ok k
 have hE : uppersP L p = uppersL L (L.length + 1) (takeP L p 2 kE).2 [(takeP L p 2 kE).1.t] := rfl
 refine Zv Tryz.func83 J (by kernel_rfl) J (Uc J) ?_
 refine Yg ?_
 refine Zg (Zc ?_)
 refine Za 2 J J J (Ze J J ?_)
 refine Vp (Zb (Zg (Zc ?_)))
 refine Za 4 J J J (Zd J J ?_)
 refine Za 5 J J J (Yh (xs := [.tmp 4, .const (.int .i64 2), .const (.string ⟨#[]⟩)]) (i := 0) J J J (take_c b L hL _ k.1 2 kE) by1 ?_)
 refine Za 6 J J J (Va (ft := 9) (fo := 1) J (by kernel_rfl) Xc J J ?_)
 refine Za 7 J J J (op_buildSlice_own (xs := [.tmp 6]) Vn J J J J J J (Uc J) ?_); intro u7
 refine Za 3 J J J (Ze J J ?_)
 refine Vp (Zb (Zg (Zz ?_)))
 apply Wc [1, 3, 4, 5, 6, 7, 8, 9, 10, 11, 12, 13, 14, 15] (σ := PS × Nat × List ByteArray × Value) (fun zz => match zz with | (q, f, acc, u) => [(3, .own u 1 (strs acc))]) (fun zz => match zz with | (q, f, acc, u) => [.own 9 1 u, .loc b (psC L q)]) (fun zz => match zz with | (q, f, acc, u) => POk L n q ∧ L.length - q.at_ < f ∧ acc.length ≤ q.at_ + 1 ∧ uppersP L p = uppersL L f q acc) (fun zz => match zz with | (q, f, acc, u) => f) (((takeP L p 2 kE).2, L.length + 1, [(takeP L p 2 kE).1.t], u7))
 ·repeat' (first | exact Uf | apply Ud rfl | apply Ue rfl)
 ·exact ⟨k1, by omega, by simp, hE⟩
 ·exact by4
 ·exact by3
 rintro ⟨q, f, acc, u⟩ hI
 try dsimp only [List.cons_append, List.nil_append] at hI ⊢
 obtain ⟨h1, h2, h3, hu⟩ := hI
 have hq1 := h1.1
 have hle : (strs acc).length ≤ 200000 := by rw [Xw]; omega
 refine Zg (Zg (Zc ?_))
 refine Za 8 J J J (Zd J J ?_)
 refine Za 9 J J J (op_mayc (xs := [.tmp 8, .const (.string ⟨#[44]⟩)]) (i := 1) J J J (may_c b L hL q kComma) by1 ?_ ?_)
 ·intro g9
  refine Vp (Zb ?_)
  refine Zq J ?_
  refine Zt ?_
  refine Zb (Zz ?_)
  obtain ⟨f, rfl⟩ : ∃ f', f = f' + 1 := ⟨f - 1, by omega⟩
  rw [uppersL_go g9] at hu
  have b1 := Xn h1 g9
  have l1 := b1.ok h1
  have b2 := Yn (kind := 2) (s := kE) (by decide) l1
  have l2 := b2.ok l1
  have b3 : (stepP q).at_ ≤ _ := b2.1
  have b4 : (stepP q).at_ = q.at_ + 1 := rfl
  have b5 := (is_lt g9).2
  have HT := take_c b L hL _ l1.1 2 kE
  obtain ⟨⟨t2, q2⟩, e2⟩ : ∃ r, takeP L (stepP q) 2 kE = r := ⟨_, rfl⟩
  rw [e2] at HT hu l2 b3
  simp only [Tok.av] at HT hu l2 b3
  refine Zc ?_
  refine Za 10 J J J (Zd J J ?_)
  refine Za 11 J J J (Zd J J ?_)
  refine Za 12 J J J (Yh (xs := [.tmp 11, .const (.int .i64 2), .const (.string ⟨#[]⟩)]) (i := 1) J J J (HT) by1 ?_)
  refine Za 13 J J J (Va (ft := 9) (fo := 1) J (by kernel_rfl) Xc J J ?_)
  refine Za 14 J J J (Ye (xs := [.tmp 13]) Vn J J J J J J (Uc J) ?_)
  refine Za 15 J J J (Xi (i := 0) Vn J J J J (.seq _ _) by6 ?_)
  intro u15
  refine Za 3 J J J (Ze J J ?_)
  refine Vp ?_
  refine Yr ?_
  refine Yx ?_
  refine ⟨(q2, f, acc ++ [t2.t], u15), ⟨l2, (by show L.length - q2.at_ < f; omega), (by show (acc ++ [t2.t]).length ≤ q2.at_ + 1; rw [List.length_append]; simp; omega), hu⟩, Nat.lt_succ_self f, Vz J (Ub (by simp [strs, AV.cells])) by4, by3⟩
 ·intro g9
  refine Vp (Zb ?_)
  refine Zn J ?_
  refine Xb ?_
  refine Yz (Xt (Xa (Zb (Zg (Zc ?_)))))
  refine Za 16 J J J (Zd J J ?_)
  refine Za 2 J J J (Ze J J ?_)
  refine Vp (Zb ?_)
  refine Ya ?_
  rw [uppersL_end g9] at hu; rw [hu]; exact Yi rfl rfl (Le.own_seq rfl) (Vt _ (Vq _)) ⟨rfl, rfl⟩
set_option maxHeartbeats 4000000 in
set_option maxRecDepth 100000 in
theorem starts_c (b : Nat) (L : List Tok) (p : PS) (what : Int) : KBCall Tryz.prog 81 [.ptr b 0, .val (.int .i64 what)] [.loc b (psC L p)] (startsP L what p) := by
 have HN := next_c b L p
 have H1 := is_p b L p kLP
 have H2 := is_p b L p kUn
 have H3 := is_p b L p kCase
 unfold startsP
 generalize isP L p kLP = x1 at *
 generalize isP L p kUn = x2 at *
 generalize isP L p kCase = x3 at *
 obtain ⟨⟨tk, tt, tn, ta⟩, ht⟩ : ∃ t, nxt L p = t := ⟨_, rfl⟩
 rw [ht] at HN ⊢
 simp only [Tok.av] at HN ⊢
 refine Zv Tryz.func81 J (by kernel_rfl) J (Uc J) ?_
 refine Yg ?_
 refine Zg (Zc ?_)
 refine Za 4 J J J (Ze J J ?_)
 refine Vp (Zb (Zg (Zc ?_)))
 refine Za 6 J J J (Zd J J ?_)
 refine Za 7 J J J (Wp (xs := [.tmp 6]) [0] J J J (HN) by1 ?_)
 refine Za 8 J J J (Va (ft := 3) (fo := 0) J (by kernel_rfl) Xh J J ?_)
 refine Za 5 J J J (Ze J J ?_)
 refine Vp (Zb (Zg (Zg ?_)))
 refine Xk 18 (tk = 1 ∨ tk = 2 ∨ x1 = true) ?_ _ _ J ?_
 ·skip
  refine Za 9 J J J (Zd J J ?_)
  refine Za 10 J J J (Yv J J J ?_); intro c10 h10
  refine Za 11 J J J (Zd J J ?_)
  rcases Zh h10 with ⟨rfl, g10⟩ | ⟨rfl, g10⟩
  ·skip
   refine Zk 12 J J J J J (Zd J J ?_)
   refine Zk 13 J J J J J (Yv J J J ?_); intro c13 h13
   refine Za 14 J J J (Zp J J J ?_)
   refine Za 15 J J J (Zd J J ?_)
   rcases Zh h13 with ⟨rfl, g13⟩ | ⟨rfl, g13⟩
   ·skip
    refine Zk 16 J J J J J (Zd J J ?_)
    refine Zk 17 J J J J J (op_callkb (xs := [.tmp 16, .const (.string ⟨#[40]⟩)]) [0] J J J (H1) by1 ?_); intro c17 h17
    refine Za 18 J J J (Zp J J J ?_)
    refine Vp ?_
    refine Ua J ?_ by5 by3
    clear HN H1 H2 H3; first | (simp_all; done) | grind
   ·skip
    refine Zi 16 J J J J J ?_
    refine Zi 17 J J J J J ?_
    refine Za 18 J J J (Zp J J J ?_)
    refine Vp ?_
    refine Ua J ?_ by5 by3
    clear HN H1 H2 H3; first | (simp_all; done) | grind
  ·skip
   refine Zi 12 J J J J J ?_
   refine Zi 13 J J J J J ?_
   refine Za 14 J J J (Zp J J J ?_)
   refine Za 15 J J J (Zd J J ?_)
   refine Zi 16 J J J J J ?_
   refine Zi 17 J J J J J ?_
   refine Za 18 J J J (Zp J J J ?_)
   refine Vp ?_
   refine Ua J ?_ by5 by3
   clear HN H1 H2 H3; first | (simp_all; done) | grind
 intro c18 h18
 refine Zb ?_
 rcases Zh h18 with ⟨rfl, g18⟩ | ⟨rfl, g18⟩
 ·refine Zn J (Zt (Zb (Zg ?_)))
  refine Xk 4 ((1 ≤ what ∧ tk = 3) ∨ (what = 1 ∧ x2 = true) ∨ (what = 2 ∧ (tk = 4 ∨ x3 = true))) ?_ _ _ J ?_
  ·skip
   refine Za 19 J J J (Zd J J ?_)
   refine Za 20 J J J (Wj J J J ?_); intro c20 h20
   refine Za 21 J J J (Zd J J ?_)
   rcases Zh h20 with ⟨rfl, g20⟩ | ⟨rfl, g20⟩
   ·skip
    refine Zi 22 J J J J J ?_
    refine Zi 23 J J J J J ?_
    refine Za 24 J J J (Zp J J J ?_)
    refine Za 25 J J J (Zd J J ?_)
    refine Zk 26 J J J J J (Zd J J ?_)
    refine Zk 27 J J J J J (Yv J J J ?_); intro c27 h27
    refine Zk 28 J J J J J (Zd J J ?_)
    rcases Zh h27 with ⟨rfl, g27⟩ | ⟨rfl, g27⟩
    ·skip
     refine Zi 29 J J J J J ?_
     refine Zi 30 J J J J J ?_
     refine Zk 31 J J J J J (Zp J J J ?_)
     refine Za 32 J J J (Zp J J J ?_)
     refine Za 33 J J J (Zd J J ?_)
     refine Zk 34 J J J J J (Zd J J ?_)
     refine Zk 35 J J J J J (Yv J J J ?_); intro c35 h35
     refine Zk 36 J J J J J (Zd J J ?_)
     rcases Zh h35 with ⟨rfl, g35⟩ | ⟨rfl, g35⟩
     ·skip
      refine Zi 37 J J J J J ?_
      refine Zi 38 J J J J J ?_
      refine Zi 39 J J J J J ?_
      refine Yp 40 J J J J J ?_
      refine Yp 41 J J J J J ?_
      refine Zi 42 J J J J J ?_
      refine Zk 43 J J J J J (Zp J J J ?_)
      refine Za 44 J J J (Zp J J J ?_)
      refine Za 4 J J J (Ze J J ?_)
      refine Vp ?_
      refine Ua J ?_ by5 by3
      clear HN H1 H2 H3; first | (simp_all; done) | grind
     ·skip
      refine Zk 37 J J J J J (Zd J J ?_)
      refine Zk 38 J J J J J (Yv J J J ?_); intro c38 h38
      refine Zk 39 J J J J J (Zd J J ?_)
      rcases Zh h38 with ⟨rfl, g38⟩ | ⟨rfl, g38⟩
      ·skip
       refine Zk 40 J J J J J (Zd J J ?_)
       refine Zk 41 J J J J J (op_callkb (xs := [.tmp 40, .const (.string ⟨#[99, 97, 115, 101]⟩)]) [0] J J J (H3) by1 ?_); intro c41 h41
       refine Zk 42 J J J J J (Zp J J J ?_)
       refine Zk 43 J J J J J (Zp J J J ?_)
       refine Za 44 J J J (Zp J J J ?_)
       refine Za 4 J J J (Ze J J ?_)
       refine Vp ?_
       refine Ua J ?_ by5 by3
       clear HN H1 H2 H3; first | (simp_all; done) | grind
      ·skip
       refine Zi 40 J J J J J ?_
       refine Zi 41 J J J J J ?_
       refine Zk 42 J J J J J (Zp J J J ?_)
       refine Zk 43 J J J J J (Zp J J J ?_)
       refine Za 44 J J J (Zp J J J ?_)
       refine Za 4 J J J (Ze J J ?_)
       refine Vp ?_
       refine Ua J ?_ by5 by3
       clear HN H1 H2 H3; first | (simp_all; done) | grind
    ·skip
     refine Zk 29 J J J J J (Zd J J ?_)
     refine Zk 30 J J J J J (op_callkb (xs := [.tmp 29, .const (.string ⟨#[95]⟩)]) [0] J J J (H2) by1 ?_); intro c30 h30
     refine Zk 31 J J J J J (Zp J J J ?_)
     refine Za 32 J J J (Zp J J J ?_)
     refine Za 33 J J J (Zd J J ?_)
     rcases Zh h30 with ⟨rfl, g30⟩ | ⟨rfl, g30⟩
     ·skip
      refine Zk 34 J J J J J (Zd J J ?_)
      refine Zk 35 J J J J J (Yv J J J ?_); intro c35 h35
      refine Zk 36 J J J J J (Zd J J ?_)
      rcases Zh h35 with ⟨rfl, g35⟩ | ⟨rfl, g35⟩
      ·skip
       refine Zi 37 J J J J J ?_
       refine Zi 38 J J J J J ?_
       refine Zi 39 J J J J J ?_
       refine Yp 40 J J J J J ?_
       refine Yp 41 J J J J J ?_
       refine Zi 42 J J J J J ?_
       refine Zk 43 J J J J J (Zp J J J ?_)
       refine Za 44 J J J (Zp J J J ?_)
       refine Za 4 J J J (Ze J J ?_)
       refine Vp ?_
       refine Ua J ?_ by5 by3
       clear HN H1 H2 H3; first | (simp_all; done) | grind
      ·skip
       refine Zk 37 J J J J J (Zd J J ?_)
       refine Zk 38 J J J J J (Yv J J J ?_); intro c38 h38
       refine Zk 39 J J J J J (Zd J J ?_)
       rcases Zh h38 with ⟨rfl, g38⟩ | ⟨rfl, g38⟩
       ·skip
        refine Zk 40 J J J J J (Zd J J ?_)
        refine Zk 41 J J J J J (op_callkb (xs := [.tmp 40, .const (.string ⟨#[99, 97, 115, 101]⟩)]) [0] J J J (H3) by1 ?_); intro c41 h41
        refine Zk 42 J J J J J (Zp J J J ?_)
        refine Zk 43 J J J J J (Zp J J J ?_)
        refine Za 44 J J J (Zp J J J ?_)
        refine Za 4 J J J (Ze J J ?_)
        refine Vp ?_
        refine Ua J ?_ by5 by3
        clear HN H1 H2 H3; first | (simp_all; done) | grind
       ·skip
        refine Zi 40 J J J J J ?_
        refine Zi 41 J J J J J ?_
        refine Zk 42 J J J J J (Zp J J J ?_)
        refine Zk 43 J J J J J (Zp J J J ?_)
        refine Za 44 J J J (Zp J J J ?_)
        refine Za 4 J J J (Ze J J ?_)
        refine Vp ?_
        refine Ua J ?_ by5 by3
        clear HN H1 H2 H3; first | (simp_all; done) | grind
     ·skip
      refine Zi 34 J J J J J ?_
      refine Zi 35 J J J J J ?_
      refine Zi 36 J J J J J ?_
      refine Yp 37 J J J J J ?_
      refine Yp 38 J J J J J ?_
      refine Yp 39 J J J J J ?_
      refine Yp 40 J J J J J ?_
      refine Yp 41 J J J J J ?_
      refine Yp 42 J J J J J ?_
      refine Zi 43 J J J J J ?_
      refine Za 44 J J J (Zp J J J ?_)
      refine Za 4 J J J (Ze J J ?_)
      refine Vp ?_
      refine Ua J ?_ by5 by3
      clear HN H1 H2 H3; first | (simp_all; done) | grind
   ·skip
    refine Zk 22 J J J J J (Zd J J ?_)
    refine Zk 23 J J J J J (Yv J J J ?_); intro c23 h23
    refine Za 24 J J J (Zp J J J ?_)
    refine Za 25 J J J (Zd J J ?_)
    rcases Zh h23 with ⟨rfl, g23⟩ | ⟨rfl, g23⟩
    ·skip
     refine Zk 26 J J J J J (Zd J J ?_)
     refine Zk 27 J J J J J (Yv J J J ?_); intro c27 h27
     refine Zk 28 J J J J J (Zd J J ?_)
     rcases Zh h27 with ⟨rfl, g27⟩ | ⟨rfl, g27⟩
     ·skip
      refine Zi 29 J J J J J ?_
      refine Zi 30 J J J J J ?_
      refine Zk 31 J J J J J (Zp J J J ?_)
      refine Za 32 J J J (Zp J J J ?_)
      refine Za 33 J J J (Zd J J ?_)
      refine Zk 34 J J J J J (Zd J J ?_)
      refine Zk 35 J J J J J (Yv J J J ?_); intro c35 h35
      refine Zk 36 J J J J J (Zd J J ?_)
      rcases Zh h35 with ⟨rfl, g35⟩ | ⟨rfl, g35⟩
      ·skip
       refine Zi 37 J J J J J ?_
       refine Zi 38 J J J J J ?_
       refine Zi 39 J J J J J ?_
       refine Yp 40 J J J J J ?_
       refine Yp 41 J J J J J ?_
       refine Zi 42 J J J J J ?_
       refine Zk 43 J J J J J (Zp J J J ?_)
       refine Za 44 J J J (Zp J J J ?_)
       refine Za 4 J J J (Ze J J ?_)
       refine Vp ?_
       refine Ua J ?_ by5 by3
       clear HN H1 H2 H3; first | (simp_all; done) | grind
      ·skip
       refine Zk 37 J J J J J (Zd J J ?_)
       refine Zk 38 J J J J J (Yv J J J ?_); intro c38 h38
       refine Zk 39 J J J J J (Zd J J ?_)
       rcases Zh h38 with ⟨rfl, g38⟩ | ⟨rfl, g38⟩
       ·skip
        refine Zk 40 J J J J J (Zd J J ?_)
        refine Zk 41 J J J J J (op_callkb (xs := [.tmp 40, .const (.string ⟨#[99, 97, 115, 101]⟩)]) [0] J J J (H3) by1 ?_); intro c41 h41
        refine Zk 42 J J J J J (Zp J J J ?_)
        refine Zk 43 J J J J J (Zp J J J ?_)
        refine Za 44 J J J (Zp J J J ?_)
        refine Za 4 J J J (Ze J J ?_)
        refine Vp ?_
        refine Ua J ?_ by5 by3
        clear HN H1 H2 H3; first | (simp_all; done) | grind
       ·skip
        refine Zi 40 J J J J J ?_
        refine Zi 41 J J J J J ?_
        refine Zk 42 J J J J J (Zp J J J ?_)
        refine Zk 43 J J J J J (Zp J J J ?_)
        refine Za 44 J J J (Zp J J J ?_)
        refine Za 4 J J J (Ze J J ?_)
        refine Vp ?_
        refine Ua J ?_ by5 by3
        clear HN H1 H2 H3; first | (simp_all; done) | grind
     ·skip
      refine Zk 29 J J J J J (Zd J J ?_)
      refine Zk 30 J J J J J (op_callkb (xs := [.tmp 29, .const (.string ⟨#[95]⟩)]) [0] J J J (H2) by1 ?_); intro c30 h30
      refine Zk 31 J J J J J (Zp J J J ?_)
      refine Za 32 J J J (Zp J J J ?_)
      refine Za 33 J J J (Zd J J ?_)
      rcases Zh h30 with ⟨rfl, g30⟩ | ⟨rfl, g30⟩
      ·skip
       refine Zk 34 J J J J J (Zd J J ?_)
       refine Zk 35 J J J J J (Yv J J J ?_); intro c35 h35
       refine Zk 36 J J J J J (Zd J J ?_)
       rcases Zh h35 with ⟨rfl, g35⟩ | ⟨rfl, g35⟩
       ·skip
        refine Zi 37 J J J J J ?_
        refine Zi 38 J J J J J ?_
        refine Zi 39 J J J J J ?_
        refine Yp 40 J J J J J ?_
        refine Yp 41 J J J J J ?_
        refine Zi 42 J J J J J ?_
        refine Zk 43 J J J J J (Zp J J J ?_)
        refine Za 44 J J J (Zp J J J ?_)
        refine Za 4 J J J (Ze J J ?_)
        refine Vp ?_
        refine Ua J ?_ by5 by3
        clear HN H1 H2 H3; first | (simp_all; done) | grind
       ·skip
        refine Zk 37 J J J J J (Zd J J ?_)
        refine Zk 38 J J J J J (Yv J J J ?_); intro c38 h38
        refine Zk 39 J J J J J (Zd J J ?_)
        rcases Zh h38 with ⟨rfl, g38⟩ | ⟨rfl, g38⟩
        ·skip
         refine Zk 40 J J J J J (Zd J J ?_)
         refine Zk 41 J J J J J (op_callkb (xs := [.tmp 40, .const (.string ⟨#[99, 97, 115, 101]⟩)]) [0] J J J (H3) by1 ?_); intro c41 h41
         refine Zk 42 J J J J J (Zp J J J ?_)
         refine Zk 43 J J J J J (Zp J J J ?_)
         refine Za 44 J J J (Zp J J J ?_)
         refine Za 4 J J J (Ze J J ?_)
         refine Vp ?_
         refine Ua J ?_ by5 by3
         clear HN H1 H2 H3; first | (simp_all; done) | grind
        ·skip
         refine Zi 40 J J J J J ?_
         refine Zi 41 J J J J J ?_
         refine Zk 42 J J J J J (Zp J J J ?_)
         refine Zk 43 J J J J J (Zp J J J ?_)
         refine Za 44 J J J (Zp J J J ?_)
         refine Za 4 J J J (Ze J J ?_)
         refine Vp ?_
         refine Ua J ?_ by5 by3
         clear HN H1 H2 H3; first | (simp_all; done) | grind
      ·skip
       refine Zi 34 J J J J J ?_
       refine Zi 35 J J J J J ?_
       refine Zi 36 J J J J J ?_
       refine Yp 37 J J J J J ?_
       refine Yp 38 J J J J J ?_
       refine Yp 39 J J J J J ?_
       refine Yp 40 J J J J J ?_
       refine Yp 41 J J J J J ?_
       refine Yp 42 J J J J J ?_
       refine Zi 43 J J J J J ?_
       refine Za 44 J J J (Zp J J J ?_)
       refine Za 4 J J J (Ze J J ?_)
       refine Vp ?_
       refine Ua J ?_ by5 by3
       clear HN H1 H2 H3; first | (simp_all; done) | grind
    ·skip
     refine Zi 26 J J J J J ?_
     refine Zi 27 J J J J J ?_
     refine Zi 28 J J J J J ?_
     refine Yp 29 J J J J J ?_
     refine Yp 30 J J J J J ?_
     refine Zi 31 J J J J J ?_
     refine Za 32 J J J (Zp J J J ?_)
     refine Za 33 J J J (Zd J J ?_)
     refine Zi 34 J J J J J ?_
     refine Zi 35 J J J J J ?_
     refine Zi 36 J J J J J ?_
     refine Yp 37 J J J J J ?_
     refine Yp 38 J J J J J ?_
     refine Yp 39 J J J J J ?_
     refine Yp 40 J J J J J ?_
     refine Yp 41 J J J J J ?_
     refine Yp 42 J J J J J ?_
     refine Zi 43 J J J J J ?_
     refine Za 44 J J J (Zp J J J ?_)
     refine Za 4 J J J (Ze J J ?_)
     refine Vp ?_
     refine Ua J ?_ by5 by3
     clear HN H1 H2 H3; first | (simp_all; done) | grind
  intro c4 h4
  refine Zb ?_
  refine Ya ?_
  exact Yi J J (Vw _) (Vq _) ⟨⟨_, by clear HN H1 H2 H3; grind, J⟩, J⟩
 ·refine Zq J (Zg (Zc ?_))
  refine Za 4 J J J (Ze J J ?_)
  refine Vp (Zb ?_)
  refine Ya ?_
  exact Yi J J (Vw _) (Vq _) ⟨⟨_, by clear HN H1 H2 H3; grind, J⟩, J⟩
theorem typesL_go {L : List Tok} {T : PS → Ty × PS} {f : Nat} {p : PS} {acc : List Ty} (h : startsP L 0 p) : typesL L T (f + 1) p acc = typesL L T f (atypeG L T p).2 (acc ++ [(atypeG L T p).1]) := by rw [typesL, if_pos h]
theorem typesL_end {L : List Tok} {T : PS → Ty × PS} {f : Nat} {p : PS} {acc : List Ty} (h : ¬ startsP L 0 p) : typesL L T f p acc = (acc, p) := by
 cases f with
 | zero => rfl
 | succ f => rw [typesL, if_neg h]
abbrev zTyp : List AV := [.val (.int .i64 0), .val (.string kE), .val (.int .i64 0), .val (.slice none 0 0)]
def TyC (b : Nat) (L : List Tok) (n : Nat) (T : PS → Ty × PS) : Prop := ∀ q, POk L n q → MCall Tryz.prog 85 [.ptr b 0] (.loc b (psC L q)) (.agg (T q).1.cells) (.loc b (psC L (T q).2))
set_option maxHeartbeats 4000000 in
set_option maxRecDepth 100000 in
theorem atype_c (b : Nat) (L : List Tok) (hL : L.length ≤ 100000) (n : Nat) (T : PS → Ty × PS) (HT : TyC b L n T) (HA : ∀ q, POk L n q → Adv L q (T q).2) (p : PS) (k : POk L n p) : MCall Tryz.prog 82 [.ptr b 0] (.loc b (psC L p)) (.agg (atypeG L T p).1.cells) (.loc b (psC L (atypeG L T p).2)) := by
 have HN := next_c b L p
 have hp := k.1
 have a1 := Yn (L := L) (kind := 7) (s := kLP) (by decide) k
 have k1 := a1.ok k
 obtain ⟨t, ht⟩ : ∃ t, nxt L p = t := ⟨_, rfl⟩
 obtain ⟨r, hr⟩ : ∃ r, atypeG L T p = r := ⟨_, rfl⟩
 have hr0 := hr
 unfold atypeG at hr
 rw [ht] at HN hr
 rw [hr0]
 obtain ⟨tk, tt, tn, ta⟩ := t
 simp only [Tok.av] at HN hr
 refine Zv Tryz.func82 J (by kernel_rfl) J (Uc J) ?_
 refine Yg ?_
 refine Zg (Zc ?_)
 refine Za 2 J J J (Zw (cs' := [_, _, _, _]) J tz_25 J J ?_); intro b2
 refine Vp (Zb (Zg (Zc ?_)))
 refine Za 5 J J J (Zd J J ?_)
 refine Za 6 J J J (Wp (xs := [.tmp 5]) [1] J J J (HN) by1 ?_)
 refine Za 3 J J J (Zw (cs' := [_, _, _, _]) J Wh J J ?_); intro b3
 refine Zo J J (Zm (cs' := [_, _, _, _]) (i := 0) J Xl J J J J J (Uc J) J ?_)
 refine Vp (Zb (Zg (Zg (Zc ?_))))
 refine Za 7 J J J (Zf J Xd J ?_)
 refine Za 8 J J J (Zl (i := 0) J Xh J J J ?_)
 refine Za 9 J J J (Yv J J J ?_); intro c9 h9
 refine Vp (Zb ?_)
 rcases Zh h9 with ⟨rfl, g9⟩ | ⟨rfl, g9⟩
 ·refine Zn J (Zt (Zb (Zg (Zg (Zc ?_)))))
  refine Za 20 J J J (Zf J Xd J ?_)
  refine Za 21 J J J (Zl (i := 0) J Xh J J J ?_)
  refine Za 22 J J J (Yv J J J ?_); intro c22 h22
  refine Vp (Zb ?_)
  rcases Zh h22 with ⟨rfl, g22⟩ | ⟨rfl, g22⟩
  ·refine Zn J (Zt (Zb (Zg (Zc ?_))))
   refine Za 33 J J J (Zd J J ?_)
   refine Za 34 J J J (Yh (xs := [.tmp 33, .const (.int .i64 7), .const (.string ⟨#[40]⟩)]) (i := 2) J J J (take_c b L hL p k.1 7 kLP) by1 ?_)
   refine Vp (Zb (Zg (Zg (Zc ?_))))
   refine Za 35 J J J (Zd J J ?_)
   refine Za 36 J J J (op_mayc (xs := [.tmp 35, .const (.string ⟨#[41]⟩)]) (i := 2) J J J (may_c b L hL (takeP L p 7 kLP).2 kRP) by1 ?_ ?_)
   ·intro g36
    refine Vp (Zb ?_)
    refine Zq J ?_
    refine Zg (Zc ?_)
    refine Za 37 J J J (Yk (ns := [0, 1]) (xs := [.const (.int .i64 3), .const (.string ⟨#[85, 110, 105, 116]⟩)]) J tz_25 J tfl_25 J J J J ?_)
    refine Zo J J (Zm (cs' := [_, _, _, _]) (i := 1) J ts_25 J J J J J (Uc J) J ?_)
    refine Vp (Zb ?_)
    refine Ya ?_
    rw [if_neg g9, if_neg g22, if_pos g36] at hr; subst hr; exact Yj (i := 1) rfl rfl rfl Xq rfl by2 (Vt _ (Vt _ (Vv rfl))) ⟨rfl, rfl⟩
   ·intro g36
    refine Vp (Zb ?_)
    refine Zn J ?_
    refine Zt ?_
    refine Zb (Zg ?_)
    have HT1 := HT _ k1
    have k2 := (HA _ k1).ok k1
    rw [if_neg g9, if_neg g22, if_neg g36] at hr
    obtain ⟨⟨⟨xk, xs, xn, xl⟩, p3⟩, hx⟩ : ∃ r, T (takeP L p 7 kLP).2 = r := ⟨_, rfl⟩
    rw [hx] at HT1 hr k2
    simp only [Ty.cells] at HT1
    refine Zc ?_
    refine Za 38 J J J (Zd J J ?_)
    refine Za 39 J J J (Yh (xs := [.tmp 38]) (i := 2) J J J (HT1) by1 ?_)
    refine Za 4 J J J (Zw (cs' := [_, _, _, _]) J tz_25 J J ?_); intro b4
    refine Zo J J (Zm (cs' := [_, _, _, _]) (i := 0) J ts_25 J J J J J (Uc J) J ?_)
    refine Vp (Zb (Zg (Zc ?_)))
    refine Za 40 J J J (Zd J J ?_)
    refine Za 41 J J J (Yh (xs := [.tmp 40, .const (.int .i64 7), .const (.string ⟨#[41]⟩)]) (i := 3) J J J (take_c b L hL _ k2.1 7 kRP) by1 ?_)
    refine Vp (Zb (Zg (Zc ?_)))
    refine Za 42 J J J (Zy (cs' := [_, _, _, _]) (i := 0) J Xq J J J J ?_)
    refine Zo J J (Zm (cs' := [_, _, _, _]) (i := 2) J ts_25 J J J J J (Uc J) J ?_)
    refine Vp (Zb ?_)
    refine Ya ?_
    subst hr; exact Yj (i := 2) rfl rfl rfl Xq rfl (Vw _) (Vt _ (Vt _ (Vt _ (Vv rfl)))) ⟨rfl, rfl⟩
  ·refine Zq J (Zg (Zc ?_))
   refine Za 23 J J J (Zd J J ?_)
   refine Za 24 J J J (Yl J J ?_)
   refine Za 25 J J J (Zf J tf_95_1 J ?_)
   refine Za 26 J J J (Zl (i := 2) J Xh J J J ?_)
   refine Za 27 J J J (Ys J J J (Ug _ (by omega)) ?_)
   refine Za 28 J J J (Yl J J ?_)
   refine Za 29 J J J (Zf J tf_95_1 J ?_)
   refine Zo J J (Zm (i := 2) J Wi J J J J J (Uc J) J ?_)
   refine Vp (Zb (Zg (Zc ?_)))
   refine Za 30 J J J (Zf J Xf J ?_)
   refine Za 31 J J J (Zl (i := 0) J Xc J J J ?_)
   refine Za 32 J J J (Yk (ns := [0, 1]) (xs := [.const (.int .i64 1), .tmp 31]) J tz_25 J tfl_25 J J J J ?_)
   refine Zo J J (Zm (cs' := [_, _, _, _]) (i := 1) J ts_25 J J J J J (Uc J) J ?_)
   refine Vp (Zb ?_)
   refine Ya ?_
   rw [if_neg g9, if_pos g22] at hr; subst hr; exact Yj (i := 1) rfl rfl rfl Xq rfl by2 (Vt _ (Vt _ (Vv rfl))) ⟨rfl, rfl⟩
 ·refine Zq J (Zg (Zc ?_))
  refine Za 10 J J J (Zd J J ?_)
  refine Za 11 J J J (Yl J J ?_)
  refine Za 12 J J J (Zf J tf_95_1 J ?_)
  refine Za 13 J J J (Zl (i := 2) J Xh J J J ?_)
  refine Za 14 J J J (Ys J J J (Ug _ (by omega)) ?_)
  refine Za 15 J J J (Yl J J ?_)
  refine Za 16 J J J (Zf J tf_95_1 J ?_)
  refine Zo J J (Zm (i := 2) J Wi J J J J J (Uc J) J ?_)
  refine Vp (Zb (Zg (Zc ?_)))
  refine Za 17 J J J (Zf J Xf J ?_)
  refine Za 18 J J J (Zl (i := 0) J Xc J J J ?_)
  refine Za 19 J J J (Yk (ns := [0, 1]) (xs := [.const (.int .i64 3), .tmp 18]) J tz_25 J tfl_25 J J J J ?_)
  refine Zo J J (Zm (cs' := [_, _, _, _]) (i := 1) J ts_25 J J J J J (Uc J) J ?_)
  refine Vp (Zb ?_)
  refine Ya ?_
  rw [if_pos g9] at hr; subst hr; exact Yj (i := 1) rfl rfl rfl Xq rfl by2 (Vt _ (Vt _ (Vv rfl))) ⟨rfl, rfl⟩
set_option maxHeartbeats 4000000 in
set_option maxRecDepth 100000 in
theorem Type_err (b : Nat) (L : List Tok) (p : PS) (he : p.e ≠ 0) : MCall Tryz.prog 85 [.ptr b 0] (.loc b (psC L p)) (.agg ty0.cells) (.loc b (psC L p)) := by
 refine Zv Tryz.func85 J (by kernel_rfl) J (Uc J) ?_
 refine Yg ?_
 refine Zg (Zc ?_)
 refine Za 2 J J J (Zw (cs' := [_, _, _, _]) J tz_25 J J ?_); intro b2
 refine Vp (Zb (Zg (Zg (Zc ?_))))
 refine Za 5 J J J (Zd J J ?_)
 refine Za 6 J J J (Yl J J ?_)
 refine Za 7 J J J (Zf J Vl J ?_)
 refine Za 8 J J J (Zl (i := 1) J Xh J J J ?_)
 refine Za 9 J J J (Xv J J J ?_); intro c9 h9
 refine Vp (Zb ?_)
 rcases Zh h9 with ⟨rfl, g9⟩ | ⟨rfl, g9⟩
 ·exact absurd he g9
 ·refine Zq J (Zg (Zc ?_))
  refine Za 10 J J J (Yk (ns := []) (xs := []) J tz_25 J tfl_25 J J J J ?_)
  refine Zo J J (Zm (cs' := [_, _, _, _]) (i := 0) J ts_25 J J J J J (Uc J) J ?_)
  refine Vp (Zb ?_)
  refine Ya ?_
  exact Yj (i := 0) J J J Xq J by2 (Vt _ (Vq _)) ⟨J, J⟩
set_option maxHeartbeats 4000000 in
set_option maxRecDepth 100000 in
theorem Type_ok (b : Nat) (L : List Tok) (hL : L.length ≤ 100000) (n : Nat) (T : PS → Ty × PS) (HT : TyC b L n T) (HA : ∀ q, POk L n q → Adv L q (T q).2) (p : PS) (k : POk L (n + 1) p) (he : p.e = 0) : MCall Tryz.prog 85 [.ptr b 0] (.loc b (psC L p)) (.agg (typeR L T (typeH L T (deeperP L p))).1.cells) (.loc b (psC L (typeR L T (typeH L T (deeperP L p))).2)) := by
 have kq := deeper_ok k he
 have HN := next_c b L (deeperP L p)
 have hq0 := kq.1
 have aH := typeH_adv HA kq
 have kH := aH.ok kq
 obtain ⟨t, ht⟩ : ∃ t, nxt L (deeperP L p) = t := ⟨_, rfl⟩
 have hkt : (nxt L (deeperP L p)).k = 2 → (deeperP L p).at_ < L.length := fun e => (Vo (by omega)).2
 have HAT := atype_c b L hL n T HT HA (deeperP L p) kq
 obtain ⟨⟨⟨xk, xs, xn, xl⟩, q1⟩, hx⟩ : ∃ r, typeH L T (deeperP L p) = r := ⟨_, rfl⟩
 have hx0 := hx
 unfold typeH at hx
 rw [hx0] at kH ⊢
 simp only [] at kH
 obtain ⟨r, hr⟩ : ∃ r, typeR L T (Ty.mk xk xs xn xl, q1) = r := ⟨_, rfl⟩
 rw [hr]
 unfold typeR at hr
 simp only [] at hr
 rw [ht] at HN hx hkt
 obtain ⟨tk, tt, tn, ta⟩ := t
 simp only [Tok.av] at HN hx hkt
 refine Zv Tryz.func85 J (by kernel_rfl) J (Uc J) ?_
 refine Yg ?_
 refine Zg (Zc ?_)
 refine Za 2 J J J (Zw (cs' := [_, _, _, _]) J tz_25 J J ?_); intro b2
 refine Vp (Zb (Zg (Zg (Zc ?_))))
 refine Za 5 J J J (Zd J J ?_)
 refine Za 6 J J J (Yl J J ?_)
 refine Za 7 J J J (Zf J Vl J ?_)
 refine Za 8 J J J (Zl (i := 1) J Xh J J J ?_)
 refine Za 9 J J J (Xv J J J ?_); intro c9 h9
 refine Vp (Zb ?_)
 rcases Zh h9 with ⟨rfl, g9⟩ | ⟨rfl, g9⟩
 ·refine Zn J (Zt (Zb (Zg (Zc ?_))))
  refine Za 11 J J J (Zd J J ?_)
  refine Za 12 J J J (Yh (xs := [.tmp 11]) (i := 1) J J J (deeper_c b L p k.2.1 (by have := k.2.2.1; omega)) by1 ?_)
  refine Vp (Zb (Zg (Zc ?_)))
  refine Za 13 J J J (Zd J J ?_)
  refine Za 14 J J J (Wp (xs := [.tmp 13]) [1] J J J (HN) by1 ?_)
  refine Za 3 J J J (Zw (cs' := [_, _, _, _]) J Wh J J ?_); intro b3
  refine Zo J J (Zm (cs' := [_, _, _, _]) (i := 0) J Xl J J J J J (Uc J) J ?_)
  refine Vp (Zb (Zg (Zc ?_)))
  refine Za 15 J J J (Yk (ns := []) (xs := []) J tz_25 J tfl_25 J J J J ?_)
  refine Za 4 J J J (Zw (cs' := [_, _, _, _]) J tz_25 J J ?_); intro b4
  refine Zo J J (Zm (cs' := [_, _, _, _]) (i := 0) J ts_25 J J J J J (Uc J) J ?_)
  refine Vp (Zb (Zg (Zg (Zc ?_))))
  refine Za 16 J J J (Zf J Xd J ?_)
  refine Za 17 J J J (Zl (i := 1) J Xh J J J ?_)
  refine Za 18 J J J (Yv J J J ?_); intro c18 h18
  refine Vp (Zb ?_)
  apply c_joink [1, 3, 5, 6, 7, 8, 9, 10, 11, 12, 13, 14, 15, 16, 17, 18, 19, 20, 21, 22, 23, 24, 25, 26, 27, 28, 29, 30, 31, 32, 33, 34, 35, 36, 37, 38, 39] (σ := Unit) (fun zz => match zz with | z => []) (fun zz => match zz with | z => [.loc b4 (Ty.mk xk xs xn xl).cells, .loc b3 (Tok.mk tk tt tn ta).av, .loc b2 zTyp, .loc b (psC L q1)]) (fun zz => match zz with | z => True)
  ·repeat' (first | exact Uf | apply Ud rfl | apply Ue rfl)
  ·skip
   rcases Zh h18 with ⟨rfl, g18⟩ | ⟨rfl, g18⟩
   ·refine Zn J ?_
    rw [if_neg g18] at hx
    rw [hx] at HAT
    simp only [Ty.cells] at HAT
    refine Zc ?_
    refine Za 38 J J J (Zd J J ?_)
    refine Za 39 J J J (Yh (xs := [.tmp 38]) (i := 3) J J J (HAT) by1 ?_)
    refine Zo J J (Zm (cs' := [_, _, _, _]) (i := 0) J ts_25 J J J J J (Uc J) J ?_)
    refine Vp ?_
    refine Yx ?_
    first | exact ⟨(), trivial, by4, Vv rfl⟩ | (rw [typesL_end g30] at hu; cases hu; exact ⟨(), trivial, by4, Vu _ (Vy (Vw _) (Vy (Vw _) (Vy (Vw _) (Vy (Le.own _ _ _) (Vx _))))) (Vs _ (Vs _ (Vs _ (Vr _))))⟩)
   ·refine Zq J (Zg ?_)
    rw [if_pos g18] at hx
    have hlt := hkt g18
    have ks := Vf kq hlt
    refine Zc ?_
    refine Za 19 J J J (Zd J J ?_)
    refine Za 20 J J J (Yl J J ?_)
    refine Za 21 J J J (Zf J tf_95_1 J ?_)
    refine Za 22 J J J (Zl (i := 3) J Xh J J J ?_)
    refine Za 23 J J J (Ys J J J (Ug _ (by omega)) ?_)
    refine Za 24 J J J (Yl J J ?_)
    refine Za 25 J J J (Zf J tf_95_1 J ?_)
    refine Zo J J (Zm (i := 3) J Wi J J J J J (Uc J) J ?_)
    refine Vp (Zb (Zg (Zc ?_)))
    refine Za 26 J J J (Zf J Xf J ?_)
    refine Za 27 J J J (Zl (i := 1) J Xc J J J ?_)
    refine Za 28 J J J (Yk (ns := [0, 1]) (xs := [.const (.int .i64 3), .tmp 27]) J tz_25 J tfl_25 J J J J ?_)
    refine Zo J J (Zm (cs' := [_, _, _, _]) (i := 0) J ts_25 J J J J J (Uc J) J ?_)
    refine Vp (Zb (Zz ?_))
    refine Xy 25 4 ?_
    apply Wc [1, 3, 5, 6, 7, 8, 9, 10, 11, 12, 13, 14, 15, 16, 17, 18, 19, 20, 21, 22, 23, 24, 26, 27, 28, 29, 30, 31, 32, 33, 34, 35, 36, 37, 38, 39] (σ := PS × Nat × List Ty × Value) (fun zz => match zz with | (q, f, acc, u) => []) (fun zz => match zz with | (q, f, acc, u) => [.loc b4 [.val (.int .i64 3), .val (.string tt), .val (.int .i64 0), .own u 4 (Ty.cellss acc)], .loc b3 (Tok.mk tk tt tn ta).av, .loc b2 zTyp, .loc b (psC L q), .own 25 4 u]) (fun zz => match zz with | (q, f, acc, u) => POk L n q ∧ L.length - q.at_ < f ∧ acc.length ≤ q.at_ ∧ (Ty.mk 3 tt 0 (typesL L T f q acc).1, (typesL L T f q acc).2) = ((Ty.mk xk xs xn xl), q1)) (fun zz => match zz with | (q, f, acc, u) => f) ((stepP (deeperP L p), L.length + 1, [], .slice none 0 0))
    ·repeat' (first | exact Uf | apply Ud rfl | apply Ue rfl)
    ·exact ⟨ks.ok kq, by omega, Nat.zero_le _, hx⟩
    ·exact by4
    ·exact (Vu _ (Vy (Vw _) (Vy (Vw _) (Vy (Vw _) (Vy (Le.nilOwn 4) (Vx _))))) (Vs _ (Vs _ (Vv J))))
    rintro ⟨q, f, acc, u⟩ hI
    try dsimp only [List.cons_append, List.nil_append] at hI ⊢
    obtain ⟨h1, h2, h3, hu⟩ := hI
    have hq1 := h1.1
    have hle : (Ty.cellss acc).length ≤ 200000 := by rw [Ty.cellss_len]; omega
    refine Zg (Zg (Zc ?_))
    refine Za 29 J J J (Zd J J ?_)
    refine Za 30 J J J (op_callkb (xs := [.tmp 29, .const (.int .i64 0)]) [3] J J J (starts_c b L q 0) by1 ?_); intro c30 h30
    refine Vp (Zb ?_)
    rcases Zh h30 with ⟨rfl, g30⟩ | ⟨rfl, g30⟩
    ·refine Zn J (Xb (Yz (Xt (Xa ?_))))
     refine Yx ?_
     first | exact ⟨(), trivial, by4, Vv rfl⟩ | (rw [typesL_end g30] at hu; cases hu; exact ⟨(), trivial, by4, Vu _ (Vy (Vw _) (Vy (Vw _) (Vy (Vw _) (Vy (Le.own _ _ _) (Vx _))))) (Vs _ (Vs _ (Vs _ (Vr _))))⟩)
    ·refine Zq J (Zt (Zb (Zz ?_)))
     obtain ⟨f, rfl⟩ : ∃ f', f = f' + 1 := ⟨f - 1, by omega⟩
     rw [typesL_go g30] at hu
     have b1 := atype_lt HA h1 g30
     have b2 := atype_adv HA h1
     have l2 := b2.ok h1
     have HA2 := atype_c b L hL n T HT HA q h1
     obtain ⟨⟨⟨yk, ys, yn, yl⟩, q2⟩, e2⟩ : ∃ r, atypeG L T q = r := ⟨_, rfl⟩
     rw [e2] at HA2 hu l2 b1
     simp only [Ty.cells] at HA2
     simp only [] at b1 l2
     have l3 := l2.1
     refine Xs [0, 1, 2, 3, 4, 5, 6, 7] [3, 5, 7] [[], [0], [], [2], [2, 3], [0, 1, 2, 3, 4], [0, 1, 2, 3, 4, 5], [0, 1, 2, 3, 4, 5, 6]] Wm J ?_
     refine Zx 31 (none) (i := 0) J J J J J (Zf J Xp J ⟨J, J⟩) ?_
     refine Zx 32 (some 0) (i := 1) J J J J J (Zl (i := 0) J Ws J J J ⟨J, J⟩) ?_
     refine Zx 33 (none) (i := 2) J J J J J (Zd J J ⟨J, J⟩) ?_
     refine Xm 3 (i := 3) J J J J J (Yh (xs := [.tmp 33]) (i := 0) J J J (HA2) by1 ⟨_, J, ?_⟩)
     refine Zx 35 (none) (i := 4) J J J J J (Ye (xs := [.tmp 34]) el_23 J J J J J J (Uc J) ⟨J, J⟩) ?_
     refine Xm 4 (i := 5) J J J J J (Xi (i := 0) el_23 J J J J (.seq _ _) by6 (fun u36 => ⟨_, J, ?_⟩))
     refine Zx 37 (none) (i := 6) J J J J J (Zf J Xp J ⟨J, J⟩) ?_
     refine Xm 0 (i := 7) J J J J J (Zm (cs' := [_, _, _, _]) (i := 0) J ts_23 J J J J J (Uc J) J ⟨_, J, ?_⟩)
     show AGo _ _ _ _ _ _ _
     refine Yr ?_
     refine Yx ?_
     refine ⟨(q2, f, acc ++ [Ty.mk yk ys yn yl], u36), ⟨l2, (by show L.length - q2.at_ < f; omega), (by show (acc ++ [Ty.mk yk ys yn yl]).length ≤ q2.at_; rw [List.length_append]; simp; omega), hu⟩, Nat.lt_succ_self f, by4, (Vu _ (Vy (Vw _) (Vy (Vw _) (Vy (Vw _) (Vy (Ub (by rw [Ty.cellss_app]; rfl)) (Vx _))))) (Vs _ (Vs _ (Vv J))))⟩
  rintro z hI
  try dsimp only [List.cons_append, List.nil_append] at hI ⊢
  refine Zb (Zg (Zg (Zc ?_)))
  refine Za 40 J J J (Zd J J ?_)
  refine Za 41 J J J (op_mayc (xs := [.tmp 40, .const (.string ⟨#[45, 62]⟩)]) (i := 3) J J J (may_c b L hL q1 kArrow) by1 ?_ ?_)
  ·intro g41
   refine Vp (Zb ?_)
   refine Zq J ?_
   have ka := Xn kH g41
   have kz := ka.ok kH
   have HT1 := HT _ kz
   have kw := (HA _ kz).ok kz
   obtain ⟨⟨⟨zk, zs, zn, zl⟩, q3⟩, e3⟩ : ∃ r, T (stepP q1) = r := ⟨_, rfl⟩
   rw [if_pos g41, e3] at hr
   rw [e3] at HT1 kw
   simp only [Ty.cells] at HT1
   simp only [] at kw
   have hb3 := kw.2.1
   have hb4 := kw.2.2.1
   refine Xs [0, 1, 2, 3, 4, 5] [2, 5] [[], [], [1], [0, 1, 2], [0, 1, 2, 3], [0, 1, 2, 3, 4]] Wm J ?_
   refine Zx 42 (some 0) (i := 0) J J J J J (Zy (cs' := [_, _, _, _]) (i := 0) J Xq J J J J ⟨J, J⟩) ?_
   refine Zx 43 (none) (i := 1) J J J J J (Zd J J ⟨J, J⟩) ?_
   refine Xm 3 (i := 2) J J J J J (Yh (xs := [.tmp 43]) (i := 0) J J J (HT1) by1 ⟨_, J, ?_⟩)
   refine Zx 45 (none) (i := 3) J J J J J (Ye (xs := [.tmp 42, .tmp 44]) el_23 J J J J J J (Uc J) ⟨J, J⟩) ?_
   refine Zx 46 (none) (i := 4) J J J J J (Yk (ns := [0, 1, 3]) (xs := [.const (.int .i64 3), .const (.string ⟨#[45, 62]⟩), .tmp 45]) J tz_25 J tfl_25 J J J J ⟨J, J⟩) ?_
   refine Xm 0 (i := 5) J J J J J (Zm (cs' := [_, _, _, _]) (i := 0) J ts_25 J J J J J (Uc J) J ⟨_, J, ?_⟩)
   show AGo _ _ _ _ _ _ _
   refine Zb (Zg ?_)
   have hb1 := kH.2.1
   have hb2 := kH.2.2.1
   refine Zc ?_
   refine Za 47 J J J (Zd J J ?_)
   refine Za 48 J J J (Yl J J ?_)
   refine Za 49 J J J (Zf J tf_95_2 J ?_)
   refine Za 50 J J J (Zl (i := 3) J Xh J J J ?_)
   refine Za 51 J J J (op_sub J J J (Ug _ (by omega)) ?_)
   refine Za 52 J J J (Yl J J ?_)
   refine Za 53 J J J (Zf J tf_95_2 J ?_)
   refine Zo J J (Zm (i := 3) J Wi J J J J J (Uc J) J ?_)
   refine Vp (Zb (Zg (Zc ?_)))
   refine Za 54 J J J (Zy (cs' := [_, _, _, _]) (i := 0) J Xq J J J J ?_)
   refine Zo J J (Zm (cs' := [_, _, _, _]) (i := 2) J ts_25 J J J J J (Uc J) J ?_)
   refine Vp (Zb ?_)
   refine Ya ?_
   subst hr; exact Yj (i := 2) rfl rfl rfl Xq rfl (Vw _) (Vt _ (Vt _ (Vt _ (Vv rfl)))) ⟨rfl, rfl⟩
  ·intro g41
   refine Vp (Zb ?_)
   refine Zn J ?_
   refine Zt ?_
   refine Zb (Zg ?_)
   have hb1 := kH.2.1
   have hb2 := kH.2.2.1
   refine Zc ?_
   refine Za 47 J J J (Zd J J ?_)
   refine Za 48 J J J (Yl J J ?_)
   refine Za 49 J J J (Zf J tf_95_2 J ?_)
   refine Za 50 J J J (Zl (i := 3) J Xh J J J ?_)
   refine Za 51 J J J (op_sub J J J (Ug _ (by omega)) ?_)
   refine Za 52 J J J (Yl J J ?_)
   refine Za 53 J J J (Zf J tf_95_2 J ?_)
   refine Zo J J (Zm (i := 3) J Wi J J J J J (Uc J) J ?_)
   refine Vp (Zb (Zg (Zc ?_)))
   refine Za 54 J J J (Zy (cs' := [_, _, _, _]) (i := 0) J Xq J J J J ?_)
   refine Zo J J (Zm (cs' := [_, _, _, _]) (i := 2) J ts_25 J J J J J (Uc J) J ?_)
   refine Vp (Zb ?_)
   refine Ya ?_
   rw [if_neg g41] at hr; subst hr; exact Yj (i := 2) rfl rfl rfl Xq rfl (Vw _) (Vt _ (Vt _ (Vt _ (Vv rfl)))) ⟨rfl, rfl⟩
 ·exact absurd he g9
theorem Type_c (b : Nat) (L : List Tok) (hL : L.length ≤ 100000) : ∀ n, TyC b L n (typeF L n)
 | 0, p, k => Type_err b L p (fun e => by have := k.2.2.2 e; omega)
 | n + 1, p, k => by
  by_cases he : p.e = 0
  ·have h := Type_ok b L hL n (typeF L n) (Type_c b L hL n) (typeF_adv n) p k he
   rw [typeF, if_neg (by rw [he]; simp)]
   exact h
  ·rw [typeF, if_pos he]; exact Type_err b L p he
theorem typeP_c (b : Nat) (L : List Tok) (hL : L.length ≤ 100000) (n : Nat) (p : PS) (k : POk L n p) : MCall Tryz.prog 85 [.ptr b 0] (.loc b (psC L p)) (.agg (typeP L p).1.cells) (.loc b (psC L (typeP L p).2)) := Type_c b L hL 302 p (k.up (by decide))
theorem patsL_go {L : List Tok} {T : PS → Pa × PS} {f : Nat} {p : PS} {acc : List Pa} (h : startsP L 1 p) : patsL L T (f + 1) p acc = patsL L T f (apatG L T p).2 (acc ++ [(apatG L T p).1]) := by rw [patsL, if_pos h]
theorem patsL_end {L : List Tok} {T : PS → Pa × PS} {f : Nat} {p : PS} {acc : List Pa} (h : ¬ startsP L 1 p) : patsL L T f p acc = (acc, p) := by
 cases f with
 | zero => rfl
 | succ f => rw [patsL, if_neg h]
theorem Pa.cellss_app' (a b : List Pa) : Pa.cellss (a ++ b) = Pa.cellss a ++ Pa.cellss b := by simp [Pa.cellss_map]
abbrev zPa : List AV := [.val (.int .i64 0), .val (.string kE), .val (.int .i64 0), .val (.slice none 0 0), .val (.int .i64 0)]
def PaC (b : Nat) (L : List Tok) (n : Nat) (T : PS → Pa × PS) : Prop := ∀ q, POk L n q → MCall Tryz.prog 131 [.ptr b 0] (.loc b (psC L q)) (.agg (T q).1.cells) (.loc b (psC L (T q).2))
set_option maxHeartbeats 4000000 in
set_option maxRecDepth 100000 in
theorem apat_c (b : Nat) (L : List Tok) (hL : L.length ≤ 100000) (n : Nat) (T : PS → Pa × PS) (HT : PaC b L n T) (HA : ∀ q, POk L n q → Adv L q (T q).2) (p : PS) (k : POk L n p) : MCall Tryz.prog 134 [.ptr b 0] (.loc b (psC L p)) (.agg (apatG L T p).1.cells) (.loc b (psC L (apatG L T p).2)) := by
 have HN := next_c b L p
 have HI := is_p b L p kUn
 have hp := k.1
 have a1 := Yn (L := L) (kind := 7) (s := kLP) (by decide) k
 have k1 := a1.ok k
 have hkt : (nxt L p).k ≠ 0 → p.at_ < L.length := fun e => (Vo e).2
 have hki : isP L p kUn = true → p.at_ < L.length := fun e => (is_lt e).2
 obtain ⟨t, ht⟩ : ∃ t, nxt L p = t := ⟨_, rfl⟩
 obtain ⟨r, hr⟩ : ∃ r, apatG L T p = r := ⟨_, rfl⟩
 have hr0 := hr
 unfold apatG at hr
 rw [ht] at HN hr hkt
 rw [hr0]
 obtain ⟨tk, tt, tn, ta⟩ := t
 simp only [Tok.av] at HN hr hkt
 refine Zv Tryz.func134 J (by kernel_rfl) J (Uc J) ?_
 refine Yg ?_
 refine Zg (Zc ?_)
 refine Za 2 J J J (Zw (cs' := [_, _, _, _, _]) J tz_184 J J ?_); intro b2
 refine Vp (Zb (Zg (Zc ?_)))
 refine Za 5 J J J (Zd J J ?_)
 refine Za 6 J J J (Wp (xs := [.tmp 5]) [1] J J J (HN) by1 ?_)
 refine Za 3 J J J (Zw (cs' := [_, _, _, _]) J Wh J J ?_); intro b3
 refine Zo J J (Zm (cs' := [_, _, _, _]) (i := 0) J Xl J J J J J (Uc J) J ?_)
 refine Vp (Zb (Zg (Zc ?_)))
 refine Za 7 J J J (Zf J Wv J ?_)
 refine Za 8 J J J (Zl (i := 0) J Xh J J J ?_)
 refine Za 9 J J J (Yk (ns := [4]) (xs := [.tmp 8]) J tz_184 J tfl_184 J J J J ?_)
 refine Za 4 J J J (Zw (cs' := [_, _, _, _, _]) J tz_184 J J ?_); intro b4
 refine Zo J J (Zm (cs' := [_, _, _, _, _]) (i := 0) J ts_184 J J J J J (Uc J) J ?_)
 refine Vp (Zb (Zg ?_))
 apply c_joink [1, 5, 6, 7, 8, 9, 10, 11, 12, 13, 14, 15, 16, 17, 18, 19, 20, 21, 22, 23, 24, 25, 26, 27, 28, 29, 30, 31, 32, 33, 34, 35, 36, 37, 50, 59] (σ := Int × ByteArray × Int) (fun zz => match zz with | (kk, ss, nn) => []) (fun zz => match zz with | (kk, ss, nn) => [.loc b4 [.val (.int .i64 kk), .val (.string ss), .val (.int .i64 nn), .val (.slice none 0 0), .val (.int .i64 ta)], .loc b3 (Tok.mk tk tt tn ta).av, .loc b2 zPa, .loc b (psC L p)]) (fun zz => match zz with | (kk, ss, nn) => (0 < kk ∧ (Pa.mk kk ss nn [] ta, stepP p) = r ∧ p.at_ < L.length) ∨ (kk = 0 ∧ (if isP L (takeP L p 7 kLP).2 kRP = true then (Pa.mk 3 kUnit 0 [] ta, stepP (takeP L p 7 kLP).2) else ((T (takeP L p 7 kLP).2).1, (takeP L (T (takeP L p 7 kLP).2).2 7 kRP).2)) = r))
 ·repeat' (first | exact Uf | apply Ud rfl | apply Ue rfl)
 ·skip
  refine Zz ?_
  refine Zg (Zc ?_)
  refine Za 11 J J J (Zf J Xd J ?_)
  refine Za 12 J J J (Zl (i := 1) J Xh J J J ?_)
  refine Za 13 J J J (Yv J J J ?_); intro c13 h13
  refine Za 10 J J J (Ze J J ?_)
  refine Vp (Zb ?_)
  rcases Zh h13 with ⟨rfl, g13⟩ | ⟨rfl, g13⟩
  ·refine Zn J (Zg (Zc ?_))
   refine Za 19 J J J (Zf J Xd J ?_)
   refine Za 20 J J J (Zl (i := 1) J Xh J J J ?_)
   refine Za 21 J J J (Yv J J J ?_); intro c21 h21
   refine Za 18 J J J (Ze J J ?_)
   refine Vp (Zb ?_)
   rcases Zh h21 with ⟨rfl, g21⟩ | ⟨rfl, g21⟩
   ·refine Zn J (Zg (Zc ?_))
    refine Za 27 J J J (Zf J Xd J ?_)
    refine Za 28 J J J (Zl (i := 1) J Xh J J J ?_)
    refine Za 29 J J J (Yv J J J ?_); intro c29 h29
    refine Za 26 J J J (Ze J J ?_)
    refine Vp (Zb ?_)
    rcases Zh h29 with ⟨rfl, g29⟩ | ⟨rfl, g29⟩
    ·refine Zn J (Zg (Zc ?_))
     refine Za 35 J J J (Zd J J ?_)
     refine Za 36 J J J (op_callkb (xs := [.tmp 35, .const (.string ⟨#[95]⟩)]) [3] J J J (HI) by1 ?_); intro c36 h36
     refine Za 34 J J J (Ze J J ?_)
     refine Vp (Zb ?_)
     rcases Zh h36 with ⟨rfl, g36⟩ | ⟨rfl, g36⟩
     ·refine Zn J (Zt ?_)
      refine Yr ?_
      refine Yx ?_
      first
      | (rw [if_pos g13] at hr; exact ⟨(3, tt, 0), .inl ⟨by decide, hr, hkt (by omega)⟩, by4, Vv rfl⟩)
      | (rw [if_neg g13, if_pos g21] at hr; exact ⟨(2, tt, 0), .inl ⟨by decide, hr, hkt (by omega)⟩, by4, Vv rfl⟩)
      | (rw [if_neg g13, if_neg g21, if_pos g29] at hr; exact ⟨(4, kE, tn), .inl ⟨by decide, hr, hkt (by omega)⟩, by4, Vv rfl⟩)
      | (rw [if_neg g13, if_neg g21, if_neg g29, if_pos g36] at hr; exact ⟨(1, kE, 0), .inl ⟨by decide, hr, hki g36⟩, by4, Vv rfl⟩)
      | (rw [if_neg g13, if_neg g21, if_neg g29, if_neg g36] at hr; exact ⟨(0, kE, 0), .inr ⟨rfl, hr⟩, by4, Vv rfl⟩)
     ·refine Zq J (Zc ?_)
      refine Za 37 J J J (Zf J tf_184_0 J ?_)
      refine Zo J J (Zm (cs' := [_, _, _, _, _]) (i := 0) J Wi J J J J J (Uc J) J ?_)
      refine Vp ?_
      refine Yr ?_
      refine Yx ?_
      first
      | (rw [if_pos g13] at hr; exact ⟨(3, tt, 0), .inl ⟨by decide, hr, hkt (by omega)⟩, by4, Vv rfl⟩)
      | (rw [if_neg g13, if_pos g21] at hr; exact ⟨(2, tt, 0), .inl ⟨by decide, hr, hkt (by omega)⟩, by4, Vv rfl⟩)
      | (rw [if_neg g13, if_neg g21, if_pos g29] at hr; exact ⟨(4, kE, tn), .inl ⟨by decide, hr, hkt (by omega)⟩, by4, Vv rfl⟩)
      | (rw [if_neg g13, if_neg g21, if_neg g29, if_pos g36] at hr; exact ⟨(1, kE, 0), .inl ⟨by decide, hr, hki g36⟩, by4, Vv rfl⟩)
      | (rw [if_neg g13, if_neg g21, if_neg g29, if_neg g36] at hr; exact ⟨(0, kE, 0), .inr ⟨rfl, hr⟩, by4, Vv rfl⟩)
    ·refine Zq J (Zg (Zc ?_))
     refine Za 30 J J J (Zf J tf_184_0 J ?_)
     refine Zo J J (Zm (cs' := [_, _, _, _, _]) (i := 0) J Wi J J J J J (Uc J) J ?_)
     refine Vp (Zb (Zc ?_))
     refine Za 31 J J J (Zf J tf_97_2 J ?_)
     refine Za 32 J J J (Zl (i := 1) J ta_2 J J J ?_)
     refine Za 33 J J J (Zf J tf_184_2 J ?_)
     refine Zo J J (Zm (cs' := [_, _, _, _, _]) (i := 0) J ts_2 J J J J J (Uc J) J ?_)
     refine Vp ?_
     refine Yr ?_
     refine Yx ?_
     first
     | (rw [if_pos g13] at hr; exact ⟨(3, tt, 0), .inl ⟨by decide, hr, hkt (by omega)⟩, by4, Vv rfl⟩)
     | (rw [if_neg g13, if_pos g21] at hr; exact ⟨(2, tt, 0), .inl ⟨by decide, hr, hkt (by omega)⟩, by4, Vv rfl⟩)
     | (rw [if_neg g13, if_neg g21, if_pos g29] at hr; exact ⟨(4, kE, tn), .inl ⟨by decide, hr, hkt (by omega)⟩, by4, Vv rfl⟩)
     | (rw [if_neg g13, if_neg g21, if_neg g29, if_pos g36] at hr; exact ⟨(1, kE, 0), .inl ⟨by decide, hr, hki g36⟩, by4, Vv rfl⟩)
     | (rw [if_neg g13, if_neg g21, if_neg g29, if_neg g36] at hr; exact ⟨(0, kE, 0), .inr ⟨rfl, hr⟩, by4, Vv rfl⟩)
   ·refine Zq J (Zg (Zc ?_))
    refine Za 22 J J J (Zf J tf_184_0 J ?_)
    refine Zo J J (Zm (cs' := [_, _, _, _, _]) (i := 0) J Wi J J J J J (Uc J) J ?_)
    refine Vp (Zb (Zc ?_))
    refine Za 23 J J J (Zf J Xf J ?_)
    refine Za 24 J J J (Zl (i := 1) J Xc J J J ?_)
    refine Za 25 J J J (Zf J tf_184_1 J ?_)
    refine Zo J J (Zm (cs' := [_, _, _, _, _]) (i := 0) J ts_9 J J J J J (Uc J) J ?_)
    refine Vp ?_
    refine Yr ?_
    refine Yx ?_
    first
    | (rw [if_pos g13] at hr; exact ⟨(3, tt, 0), .inl ⟨by decide, hr, hkt (by omega)⟩, by4, Vv rfl⟩)
    | (rw [if_neg g13, if_pos g21] at hr; exact ⟨(2, tt, 0), .inl ⟨by decide, hr, hkt (by omega)⟩, by4, Vv rfl⟩)
    | (rw [if_neg g13, if_neg g21, if_pos g29] at hr; exact ⟨(4, kE, tn), .inl ⟨by decide, hr, hkt (by omega)⟩, by4, Vv rfl⟩)
    | (rw [if_neg g13, if_neg g21, if_neg g29, if_pos g36] at hr; exact ⟨(1, kE, 0), .inl ⟨by decide, hr, hki g36⟩, by4, Vv rfl⟩)
    | (rw [if_neg g13, if_neg g21, if_neg g29, if_neg g36] at hr; exact ⟨(0, kE, 0), .inr ⟨rfl, hr⟩, by4, Vv rfl⟩)
  ·refine Zq J (Zg (Zc ?_))
   refine Za 14 J J J (Zf J tf_184_0 J ?_)
   refine Zo J J (Zm (cs' := [_, _, _, _, _]) (i := 0) J Wi J J J J J (Uc J) J ?_)
   refine Vp (Zb (Zc ?_))
   refine Za 15 J J J (Zf J Xf J ?_)
   refine Za 16 J J J (Zl (i := 1) J Xc J J J ?_)
   refine Za 17 J J J (Zf J tf_184_1 J ?_)
   refine Zo J J (Zm (cs' := [_, _, _, _, _]) (i := 0) J ts_9 J J J J J (Uc J) J ?_)
   refine Vp ?_
   refine Yr ?_
   refine Yx ?_
   first
   | (rw [if_pos g13] at hr; exact ⟨(3, tt, 0), .inl ⟨by decide, hr, hkt (by omega)⟩, by4, Vv rfl⟩)
   | (rw [if_neg g13, if_pos g21] at hr; exact ⟨(2, tt, 0), .inl ⟨by decide, hr, hkt (by omega)⟩, by4, Vv rfl⟩)
   | (rw [if_neg g13, if_neg g21, if_pos g29] at hr; exact ⟨(4, kE, tn), .inl ⟨by decide, hr, hkt (by omega)⟩, by4, Vv rfl⟩)
   | (rw [if_neg g13, if_neg g21, if_neg g29, if_pos g36] at hr; exact ⟨(1, kE, 0), .inl ⟨by decide, hr, hki g36⟩, by4, Vv rfl⟩)
   | (rw [if_neg g13, if_neg g21, if_neg g29, if_neg g36] at hr; exact ⟨(0, kE, 0), .inr ⟨rfl, hr⟩, by4, Vv rfl⟩)
 rintro ⟨kk, ss, nn⟩ hI
 try dsimp only [List.cons_append, List.nil_append] at hI ⊢
 refine Zb (Zg (Zg (Zc ?_)))
 refine Za 38 J J J (Zf J tf_184_0 J ?_)
 refine Za 39 J J J (Zl (i := 0) J Xh J J J ?_)
 refine Za 40 J J J (Vc J J J ?_); intro c40 h40
 refine Vp (Zb ?_)
 rcases Zh h40 with ⟨rfl, g40⟩ | ⟨rfl, g40⟩
 ·refine Zn J (Zt (Zb (Zg ?_)))
  obtain ⟨_, h2⟩ := hI.resolve_left (fun q => by omega)
  refine Zc ?_
  refine Za 49 J J J (Zd J J ?_)
  refine Za 50 J J J (Yh (xs := [.tmp 49, .const (.int .i64 7), .const (.string ⟨#[40]⟩)]) (i := 3) J J J (take_c b L hL p k.1 7 kLP) by1 ?_)
  refine Vp (Zb (Zg (Zg (Zc ?_))))
  refine Za 51 J J J (Zd J J ?_)
  refine Za 52 J J J (op_mayc (xs := [.tmp 51, .const (.string ⟨#[41]⟩)]) (i := 3) J J J (may_c b L hL (takeP L p 7 kLP).2 kRP) by1 ?_ ?_)
  ·intro g52
   refine Vp (Zb ?_)
   refine Zq J ?_
   refine Zg (Zc ?_)
   refine Za 53 J J J (Zf J Wv J ?_)
   refine Za 54 J J J (Zl (i := 1) J Xh J J J ?_)
   refine Za 55 J J J (Yk (ns := [0, 1, 4]) (xs := [.const (.int .i64 3), .const (.string ⟨#[85, 110, 105, 116]⟩), .tmp 54]) J tz_184 J tfl_184 J J J J ?_)
   refine Zo J J (Zm (cs' := [_, _, _, _, _]) (i := 2) J ts_184 J J J J J (Uc J) J ?_)
   refine Vp (Zb ?_)
   refine Ya ?_
   rw [if_pos g52] at h2; subst h2; exact Yj (i := 2) rfl rfl rfl ta_184 rfl by2 (Vt _ (Vt _ (Vt _ (Vv rfl)))) ⟨rfl, rfl⟩
  ·intro g52
   refine Vp (Zb ?_)
   refine Zn J ?_
   refine Zt ?_
   refine Zb (Zg ?_)
   have HT1 := HT _ k1
   have k2 := (HA _ k1).ok k1
   rw [if_neg g52] at h2
   obtain ⟨⟨⟨xk, xs, xn, xl, xp⟩, p3⟩, hx⟩ : ∃ r, T (takeP L p 7 kLP).2 = r := ⟨_, rfl⟩
   rw [hx] at HT1 h2 k2
   simp only [Pa.cells] at HT1
   refine Zc ?_
   refine Za 56 J J J (Zd J J ?_)
   refine Za 57 J J J (Yh (xs := [.tmp 56]) (i := 3) J J J (HT1) by1 ?_)
   refine Zo J J (Zm (cs' := [_, _, _, _, _]) (i := 0) J ts_184 J J J J J (Uc J) J ?_)
   refine Vp (Zb (Zg (Zc ?_)))
   refine Za 58 J J J (Zd J J ?_)
   refine Za 59 J J J (Yh (xs := [.tmp 58, .const (.int .i64 7), .const (.string ⟨#[41]⟩)]) (i := 3) J J J (take_c b L hL _ k2.1 7 kRP) by1 ?_)
   refine Vp (Zb (Zg (Zc ?_)))
   refine Za 60 J J J (Zy (cs' := [_, _, _, _, _]) (i := 0) J ta_184 J J J J ?_)
   refine Zo J J (Zm (cs' := [_, _, _, _, _]) (i := 2) J ts_184 J J J J J (Uc J) J ?_)
   refine Vp (Zb ?_)
   refine Ya ?_
   subst h2; exact Yj (i := 2) rfl rfl rfl ta_184 rfl (Vw _) (Vt _ (Vt _ (Vt _ (Vv rfl)))) ⟨rfl, rfl⟩
 ·refine Zq J (Zg ?_)
  obtain ⟨_, h2, h3⟩ := hI.resolve_right (fun q => by omega)
  refine Zc ?_
  refine Za 41 J J J (Zd J J ?_)
  refine Za 42 J J J (Yl J J ?_)
  refine Za 43 J J J (Zf J tf_95_1 J ?_)
  refine Za 44 J J J (Zl (i := 3) J Xh J J J ?_)
  refine Za 45 J J J (Ys J J J (Ug _ (by omega)) ?_)
  refine Za 46 J J J (Yl J J ?_)
  refine Za 47 J J J (Zf J tf_95_1 J ?_)
  refine Zo J J (Zm (i := 3) J Wi J J J J J (Uc J) J ?_)
  refine Vp (Zb (Zg (Zc ?_)))
  refine Za 48 J J J (Zy (cs' := [_, _, _, _, _]) (i := 0) J ta_184 J J J J ?_)
  refine Zo J J (Zm (cs' := [_, _, _, _, _]) (i := 2) J ts_184 J J J J J (Uc J) J ?_)
  refine Vp (Zb ?_)
  refine Ya ?_
  subst h2; exact Yj (i := 2) rfl rfl rfl ta_184 rfl (Le.agg (Vy (Vw _) (Vy (Vw _) (Vy (Vw _) (Vy (Le.nil _) (Vx _)))))) (Vt _ (Vt _ (Vt _ (Vv rfl)))) ⟨rfl, rfl⟩
set_option maxHeartbeats 4000000 in
set_option maxRecDepth 100000 in
theorem pat_err (b : Nat) (L : List Tok) (p : PS) (he : p.e ≠ 0) : MCall Tryz.prog 131 [.ptr b 0] (.loc b (psC L p)) (.agg pa0.cells) (.loc b (psC L p)) := by
 refine Zv Tryz.func131 J (by kernel_rfl) J (Uc J) ?_
 refine Yg ?_
 refine Zg (Zc ?_)
 refine Za 2 J J J (Zw (cs' := [_, _, _, _, _]) J tz_184 J J ?_); intro b2
 refine Vp (Zb (Zg (Zg (Zc ?_))))
 refine Za 5 J J J (Zd J J ?_)
 refine Za 6 J J J (Yl J J ?_)
 refine Za 7 J J J (Zf J Vl J ?_)
 refine Za 8 J J J (Zl (i := 1) J Xh J J J ?_)
 refine Za 9 J J J (Xv J J J ?_); intro c9 h9
 refine Vp (Zb ?_)
 rcases Zh h9 with ⟨rfl, g9⟩ | ⟨rfl, g9⟩
 ·exact absurd he g9
 ·refine Zq J (Zg (Zc ?_))
  refine Za 10 J J J (Yk (ns := []) (xs := []) J tz_184 J tfl_184 J J J J ?_)
  refine Zo J J (Zm (cs' := [_, _, _, _, _]) (i := 0) J ts_184 J J J J J (Uc J) J ?_)
  refine Vp (Zb ?_)
  refine Ya ?_
  exact Yj (i := 0) J J J ta_184 J by2 (Vt _ (Vq _)) ⟨J, J⟩
set_option maxHeartbeats 4000000 in
set_option maxRecDepth 100000 in
theorem apat_con (b : Nat) (L : List Tok) (hL : L.length ≤ 100000) (n : Nat) (p : PS) (k : POk L n p) (h2 : (nxt L p).k = 2) : MCall Tryz.prog 134 [.ptr b 0] (.loc b (psC L p)) (.agg [.val (.int .i64 3), .val (.string (nxt L p).t), .val (.int .i64 0), .val (.slice none 0 0), .val (.int .i64 (nxt L p).a)]) (.loc b (psC L (stepP p))) := by
 have HN := next_c b L p
 have hp := k.1
 have hlt : p.at_ < L.length := (Vo (by omega)).2
 obtain ⟨t, ht⟩ : ∃ t, nxt L p = t := ⟨_, rfl⟩
 rw [ht] at HN h2 ⊢
 obtain ⟨tk, tt, tn, ta⟩ := t
 simp only [Tok.av] at HN h2 ⊢
 refine Zv Tryz.func134 J (by kernel_rfl) J (Uc J) ?_
 refine Yg ?_
 refine Zg (Zc ?_)
 refine Za 2 J J J (Zw (cs' := [_, _, _, _, _]) J tz_184 J J ?_); intro b2
 refine Vp (Zb (Zg (Zc ?_)))
 refine Za 5 J J J (Zd J J ?_)
 refine Za 6 J J J (Wp (xs := [.tmp 5]) [1] J J J (HN) by1 ?_)
 refine Za 3 J J J (Zw (cs' := [_, _, _, _]) J Wh J J ?_); intro b3
 refine Zo J J (Zm (cs' := [_, _, _, _]) (i := 0) J Xl J J J J J (Uc J) J ?_)
 refine Vp (Zb (Zg (Zc ?_)))
 refine Za 7 J J J (Zf J Wv J ?_)
 refine Za 8 J J J (Zl (i := 0) J Xh J J J ?_)
 refine Za 9 J J J (Yk (ns := [4]) (xs := [.tmp 8]) J tz_184 J tfl_184 J J J J ?_)
 refine Za 4 J J J (Zw (cs' := [_, _, _, _, _]) J tz_184 J J ?_); intro b4
 refine Zo J J (Zm (cs' := [_, _, _, _, _]) (i := 0) J ts_184 J J J J J (Uc J) J ?_)
 refine Vp (Zb (Zg (Zz (Zg (Zc ?_)))))
 refine Za 11 J J J (Zf J Xd J ?_)
 refine Za 12 J J J (Zl (i := 1) J Xh J J J ?_)
 refine Za 13 J J J (Yv J J J ?_); intro c13 h13
 refine Za 10 J J J (Ze J J ?_)
 refine Vp (Zb ?_)
 rcases Zh h13 with ⟨rfl, g13⟩ | ⟨rfl, g13⟩
 ·exact absurd h2 g13
 ·refine Zq J (Zg (Zc ?_))
  refine Za 14 J J J (Zf J tf_184_0 J ?_)
  refine Zo J J (Zm (cs' := [_, _, _, _, _]) (i := 0) J Wi J J J J J (Uc J) J ?_)
  refine Vp (Zb (Zc ?_))
  refine Za 15 J J J (Zf J Xf J ?_)
  refine Za 16 J J J (Zl (i := 1) J Xc J J J ?_)
  refine Za 17 J J J (Zf J tf_184_1 J ?_)
  refine Zo J J (Zm (cs' := [_, _, _, _, _]) (i := 0) J ts_9 J J J J J (Uc J) J ?_)
  refine Vp ?_
  refine Yr ?_
  refine Zb (Zg (Zg (Zc ?_)))
  refine Za 38 J J J (Zf J tf_184_0 J ?_)
  refine Za 39 J J J (Zl (i := 0) J Xh J J J ?_)
  refine Za 40 J J J (Vc J J J ?_); intro c40 h40
  refine Vp (Zb ?_)
  rcases Zh h40 with ⟨rfl, g40⟩ | ⟨rfl, g40⟩
  ·exact absurd g40 (by decide)
  ·refine Zq J (Zg (Zc ?_))
   refine Za 41 J J J (Zd J J ?_)
   refine Za 42 J J J (Yl J J ?_)
   refine Za 43 J J J (Zf J tf_95_1 J ?_)
   refine Za 44 J J J (Zl (i := 3) J Xh J J J ?_)
   refine Za 45 J J J (Ys J J J (Ug _ (by omega)) ?_)
   refine Za 46 J J J (Yl J J ?_)
   refine Za 47 J J J (Zf J tf_95_1 J ?_)
   refine Zo J J (Zm (i := 3) J Wi J J J J J (Uc J) J ?_)
   refine Vp (Zb (Zg (Zc ?_)))
   refine Za 48 J J J (Zy (cs' := [_, _, _, _, _]) (i := 0) J ta_184 J J J J ?_)
   refine Zo J J (Zm (cs' := [_, _, _, _, _]) (i := 2) J ts_184 J J J J J (Uc J) J ?_)
   refine Vp (Zb ?_)
   refine Ya ?_
   exact Yj (i := 2) J J J ta_184 J (Vw _) (Vt _ (Vt _ (Vt _ (Vv J)))) ⟨J, J⟩
set_option maxHeartbeats 4000000 in
set_option maxRecDepth 100000 in
theorem pat_non (b : Nat) (L : List Tok) (hL : L.length ≤ 100000) (n : Nat) (T : PS → Pa × PS) (HT : PaC b L n T) (HA : ∀ q, POk L n q → Adv L q (T q).2) (p : PS) (k : POk L (n + 1) p) (he : p.e = 0) (hk : ¬ (nxt L (deeperP L p)).k = 2) :
    MCall Tryz.prog 131 [.ptr b 0] (.loc b (psC L p)) (.agg (apatG L T (deeperP L p)).1.cells) (.loc b (psC L (decP (apatG L T (deeperP L p)).2))) := by
 have kq := deeper_ok k he
 have HN := next_c b L (deeperP L p)
 have HAT := apat_c b L hL n T HT HA (deeperP L p) kq
 have kt := (apat_adv HA kq).ok kq
 obtain ⟨t, ht⟩ : ∃ t, nxt L (deeperP L p) = t := ⟨_, rfl⟩
 rw [ht] at HN hk
 obtain ⟨tk, tt, tn, ta⟩ := t
 obtain ⟨⟨⟨xk, xs, xn, xl, xp⟩, q1⟩, hx⟩ : ∃ r, apatG L T (deeperP L p) = r := ⟨_, rfl⟩
 rw [hx] at HAT kt ⊢
 simp only [Tok.av, Pa.cells] at HN HAT hk ⊢
 simp only [] at kt
 have hb1 := kt.2.1
 have hb2 := kt.2.2.1
 refine Zv Tryz.func131 J (by kernel_rfl) J (Uc J) ?_
 refine Yg ?_
 refine Zg (Zc ?_)
 refine Za 2 J J J (Zw (cs' := [_, _, _, _, _]) J tz_184 J J ?_); intro b2
 refine Vp (Zb (Zg (Zg (Zc ?_))))
 refine Za 5 J J J (Zd J J ?_)
 refine Za 6 J J J (Yl J J ?_)
 refine Za 7 J J J (Zf J Vl J ?_)
 refine Za 8 J J J (Zl (i := 1) J Xh J J J ?_)
 refine Za 9 J J J (Xv J J J ?_); intro c9 h9
 refine Vp (Zb ?_)
 rcases Zh h9 with ⟨rfl, g9⟩ | ⟨rfl, g9⟩
 ·refine Zn J (Zt (Zb (Zg (Zc ?_))))
  refine Za 11 J J J (Zd J J ?_)
  refine Za 12 J J J (Yh (xs := [.tmp 11]) (i := 1) J J J (deeper_c b L p k.2.1 (by have := k.2.2.1; omega)) by1 ?_)
  refine Vp (Zb (Zg (Zc ?_)))
  refine Za 13 J J J (Zd J J ?_)
  refine Za 14 J J J (Wp (xs := [.tmp 13]) [1] J J J (HN) by1 ?_)
  refine Za 15 J J J (Va (ft := 3) (fo := 0) J (by kernel_rfl) Xh J J ?_)
  refine Za 16 J J J (Yv J J J ?_); intro c16 h16
  refine Za 3 J J J (Ze J J ?_)
  refine Vp (Zb (Zg ?_))
  obtain rfl : c16 = false := by
   cases c16 with
   | false => rfl
   | true => exact absurd (h16.1 rfl) hk
  refine Zc ?_
  refine Za 17 J J J (Zd J J ?_)
  refine Za 18 J J J (Yh (xs := [.tmp 17]) (i := 1) J J J (HAT) by1 ?_)
  refine Za 4 J J J (Zw (cs' := [_, _, _, _, _]) J tz_184 J J ?_); intro b4
  refine Zo J J (Zm (cs' := [_, _, _, _, _]) (i := 0) J ts_184 J J J J J (Uc J) J ?_)
  refine Vp (Zb (Zg (Zz ?_)))
  apply Xj [1, 5, 6, 7, 8, 9, 10, 11, 12, 13, 14, 15, 16, 17, 18, 19, 20, 21, 22, 23, 24, 25, 26, 27, 28, 29, 30] (σ := Unit) (fun zz => match zz with | z => []) (fun zz => match zz with | z => True) (fun zz => match zz with | z => 0) (())
  ·repeat' (first | exact Uf | apply Ud rfl | apply Ue rfl)
  ·exact trivial
  ·exact by4
  rintro z hI
  try dsimp only [List.cons_append, List.nil_append] at hI ⊢
  refine Zg (Zg (Zc ?_))
  refine Za 19 J J J (Zd J J ?_)
  refine Za 20 J J J (Zd J J ?_)
  refine Zi 21 J J J J J ?_
  refine Zi 22 J J J J J ?_
  refine Za 23 J J J (Zp J J J ?_)
  refine Vp (Zb ?_)
  refine Zn J ?_
  refine Xb ?_
  refine Yz (Xt (Xa (Zb (Zg (Zc ?_)))))
  refine Za 31 J J J (Zd J J ?_)
  refine Za 32 J J J (Yl J J ?_)
  refine Za 33 J J J (Zf J tf_95_2 J ?_)
  refine Za 34 J J J (Zl (i := 2) J Xh J J J ?_)
  refine Za 35 J J J (op_sub J J J (Ug _ (by omega)) ?_)
  refine Za 36 J J J (Yl J J ?_)
  refine Za 37 J J J (Zf J tf_95_2 J ?_)
  refine Zo J J (Zm (i := 2) J Wi J J J J J (Uc J) J ?_)
  refine Vp (Zb (Zg (Zc ?_)))
  refine Za 38 J J J (Zy (cs' := [_, _, _, _, _]) (i := 0) J ta_184 J J J J ?_)
  refine Zo J J (Zm (cs' := [_, _, _, _, _]) (i := 1) J ts_184 J J J J J (Uc J) J ?_)
  refine Vp (Zb ?_)
  refine Ya ?_
  exact Yj (i := 1) J J J ta_184 J (Vw _) (Vt _ (Vt _ (Vv J))) ⟨J, J⟩
 ·exact absurd he g9
set_option maxHeartbeats 4000000 in
set_option maxRecDepth 100000 in
theorem pat_con (b : Nat) (L : List Tok) (hL : L.length ≤ 100000) (n : Nat) (T : PS → Pa × PS) (HT : PaC b L n T) (HA : ∀ q, POk L n q → Adv L q (T q).2) (p : PS) (k : POk L (n + 1) p) (he : p.e = 0) (hk : (nxt L (deeperP L p)).k = 2) (r : List Pa × PS) (hr : patsL L T (L.length + 1) (stepP (deeperP L p)) [] = r) :
    MCall Tryz.prog 131 [.ptr b 0] (.loc b (psC L p)) (.agg (Pa.mk 3 (nxt L (deeperP L p)).t 0 r.1 (nxt L (deeperP L p)).a).cells) (.loc b (psC L (decP r.2))) := by
 have kq := deeper_ok k he
 have HN := next_c b L (deeperP L p)
 have HAT := apat_con b L hL n (deeperP L p) kq hk
 have hlt : (deeperP L p).at_ < L.length := (Vo (by omega)).2
 have ks := (Vf kq hlt).ok kq
 obtain ⟨t, ht⟩ : ∃ t, nxt L (deeperP L p) = t := ⟨_, rfl⟩
 rw [ht] at HN hk HAT ⊢
 obtain ⟨tk, tt, tn, ta⟩ := t
 simp only [Tok.av] at HN HAT hk ⊢
 refine Zv Tryz.func131 J (by kernel_rfl) J (Uc J) ?_
 refine Yg ?_
 refine Zg (Zc ?_)
 refine Za 2 J J J (Zw (cs' := [_, _, _, _, _]) J tz_184 J J ?_); intro b2
 refine Vp (Zb (Zg (Zg (Zc ?_))))
 refine Za 5 J J J (Zd J J ?_)
 refine Za 6 J J J (Yl J J ?_)
 refine Za 7 J J J (Zf J Vl J ?_)
 refine Za 8 J J J (Zl (i := 1) J Xh J J J ?_)
 refine Za 9 J J J (Xv J J J ?_); intro c9 h9
 refine Vp (Zb ?_)
 rcases Zh h9 with ⟨rfl, g9⟩ | ⟨rfl, g9⟩
 ·refine Zn J (Zt (Zb (Zg (Zc ?_))))
  refine Za 11 J J J (Zd J J ?_)
  refine Za 12 J J J (Yh (xs := [.tmp 11]) (i := 1) J J J (deeper_c b L p k.2.1 (by have := k.2.2.1; omega)) by1 ?_)
  refine Vp (Zb (Zg (Zc ?_)))
  refine Za 13 J J J (Zd J J ?_)
  refine Za 14 J J J (Wp (xs := [.tmp 13]) [1] J J J (HN) by1 ?_)
  refine Za 15 J J J (Va (ft := 3) (fo := 0) J (by kernel_rfl) Xh J J ?_)
  refine Za 16 J J J (Yv J J J ?_); intro c16 h16
  refine Za 3 J J J (Ze J J ?_)
  refine Vp (Zb (Zg ?_))
  obtain rfl : c16 = true := h16.2 hk
  refine Zc ?_
  refine Za 17 J J J (Zd J J ?_)
  refine Za 18 J J J (Yh (xs := [.tmp 17]) (i := 1) J J J (HAT) by1 ?_)
  refine Za 4 J J J (Zw (cs' := [_, _, _, _, _]) J tz_184 J J ?_); intro b4
  refine Zo J J (Zm (cs' := [_, _, _, _, _]) (i := 0) J ts_184 J J J J J (Uc J) J ?_)
  refine Vp (Zb (Zg (Zz ?_)))
  refine Xy 184 5 ?_
  apply Wc [1, 5, 6, 7, 8, 9, 10, 11, 12, 13, 14, 15, 16, 17, 18, 19, 20, 21, 22, 23, 24, 25, 26, 27, 28, 29, 30] (σ := PS × Nat × List Pa × Value) (fun zz => match zz with | (q, f, acc, u) => []) (fun zz => match zz with | (q, f, acc, u) => [.loc b4 [.val (.int .i64 3), .val (.string tt), .val (.int .i64 0), .own u 5 (Pa.cellss acc), .val (.int .i64 ta)], .loc b2 zPa, .loc b (psC L q), .own 184 5 u]) (fun zz => match zz with | (q, f, acc, u) => POk L n q ∧ L.length - q.at_ < f ∧ acc.length ≤ q.at_ ∧ patsL L T f q acc = r) (fun zz => match zz with | (q, f, acc, u) => f) ((stepP (deeperP L p), L.length + 1, [], .slice none 0 0))
  ·repeat' (first | exact Uf | apply Ud rfl | apply Ue rfl)
  ·exact ⟨ks, by omega, Nat.zero_le _, hr⟩
  ·exact by4
  ·exact (Vu _ (Vy (Vw _) (Vy (Vw _) (Vy (Vw _) (Vy (Le.nilOwn 5) (Vx _))))) (Vs _ (Vv J)))
  rintro ⟨q, f, acc, u⟩ hI
  try dsimp only [List.cons_append, List.nil_append] at hI ⊢
  obtain ⟨h1, h2, h3, hu⟩ := hI
  have hq1 := h1.1
  have hb1 := h1.2.1
  have hb2 := h1.2.2.1
  have hle : (Pa.cellss acc).length ≤ 200000 := by rw [Pa.cellss_len]; omega
  refine Zg (Zg (Zc ?_))
  refine Za 19 J J J (Zd J J ?_)
  refine Za 20 J J J (Zd J J ?_)
  refine Zk 21 J J J J J (Zd J J ?_)
  refine Zk 22 J J J J J (op_callkb (xs := [.tmp 21, .const (.int .i64 1)]) [2] J J J (starts_c b L q 1) by1 ?_); intro c22 h22
  refine Za 23 J J J (Zp J J J ?_)
  refine Vp (Zb ?_)
  rcases Zh h22 with ⟨rfl, g22⟩ | ⟨rfl, g22⟩
  ·refine Zn J (Xb (Yz (Xt (Xa (Zb (Zg (Zc ?_)))))))
   refine Za 31 J J J (Zd J J ?_)
   refine Za 32 J J J (Yl J J ?_)
   refine Za 33 J J J (Zf J tf_95_2 J ?_)
   refine Za 34 J J J (Zl (i := 2) J Xh J J J ?_)
   refine Za 35 J J J (op_sub J J J (Ug _ (by omega)) ?_)
   refine Za 36 J J J (Yl J J ?_)
   refine Za 37 J J J (Zf J tf_95_2 J ?_)
   refine Zo J J (Zm (i := 2) J Wi J J J J J (Uc J) J ?_)
   refine Vp (Zb (Zg (Zc ?_)))
   refine Za 38 J J J (Zy (cs' := [_, _, _, _, _]) (i := 0) J ta_184 J J J J ?_)
   refine Zo J J (Zm (cs' := [_, _, _, _, _]) (i := 1) J ts_184 J J J J J (Uc J) J ?_)
   refine Vp (Zb ?_)
   refine Ya ?_
   rw [patsL_end g22] at hu; subst hu; exact Yj (i := 1) rfl rfl rfl ta_184 rfl (Le.agg (Vy (Vw _) (Vy (Vw _) (Vy (Vw _) (Vy (Le.own _ _ _) (Vx _)))))) (Vt _ (Vt _ (Vs _ (Vr _)))) ⟨rfl, rfl⟩
  ·refine Zq J (Zt (Zb (Zz ?_)))
   obtain ⟨f, rfl⟩ : ∃ f', f = f' + 1 := ⟨f - 1, by omega⟩
   rw [patsL_go g22] at hu
   have b1 := apat_lt HA h1 g22
   have b2 := apat_adv HA h1
   have l2 := b2.ok h1
   have HA2 := apat_c b L hL n T HT HA q h1
   obtain ⟨⟨⟨yk, ys, yn, yl, yp⟩, q2⟩, e2⟩ : ∃ r, apatG L T q = r := ⟨_, rfl⟩
   rw [e2] at HA2 hu l2 b1
   simp only [Pa.cells] at HA2
   simp only [] at b1 l2
   have l3 := l2.1
   refine Xs [0, 1, 2, 3, 4, 5, 6, 7] [3, 5, 7] [[], [0], [], [2], [2, 3], [0, 1, 2, 3, 4], [0, 1, 2, 3, 4, 5], [0, 1, 2, 3, 4, 5, 6]] Wm J ?_
   refine Zx 24 (none) (i := 0) J J J J J (Zf J tf_184_3 J ⟨J, J⟩) ?_
   refine Zx 25 (some 0) (i := 1) J J J J J (Zl (i := 0) J ta_182 J J J ⟨J, J⟩) ?_
   refine Zx 26 (none) (i := 2) J J J J J (Zd J J ⟨J, J⟩) ?_
   refine Xm 2 (i := 3) J J J J J (Yh (xs := [.tmp 26]) (i := 0) J J J (HA2) by1 ⟨_, J, ?_⟩)
   refine Zx 28 (none) (i := 4) J J J J J (Ye (xs := [.tmp 27]) el_182 J J J J J J (Uc J) ⟨J, J⟩) ?_
   refine Xm 3 (i := 5) J J J J J (Xi (i := 0) el_182 J J J J (.seq _ _) by6 (fun u29 => ⟨_, J, ?_⟩))
   refine Zx 30 (none) (i := 6) J J J J J (Zf J tf_184_3 J ⟨J, J⟩) ?_
   refine Xm 0 (i := 7) J J J J J (Zm (cs' := [_, _, _, _, _]) (i := 0) J ts_182 J J J J J (Uc J) J ⟨_, J, ?_⟩)
   show AGo _ _ _ _ _ _ _
   refine Yr ?_
   refine Yx ?_
   refine ⟨(q2, f, acc ++ [Pa.mk yk ys yn yl yp], u29), ⟨l2, (by show L.length - q2.at_ < f; omega), (by show (acc ++ [Pa.mk yk ys yn yl yp]).length ≤ q2.at_; rw [List.length_append]; simp; omega), hu⟩, Nat.lt_succ_self f, by4, (Vu _ (Vy (Vw _) (Vy (Vw _) (Vy (Vw _) (Vy (Ub (by rw [Pa.cellss_app']; rfl)) (Vx _))))) (Vs _ (Vv J)))⟩
 ·exact absurd he g9
theorem pat_c (b : Nat) (L : List Tok) (hL : L.length ≤ 100000) : ∀ n, PaC b L n (patF L n)
 | 0, p, k => pat_err b L p (fun e => by have := k.2.2.2 e; omega)
 | n + 1, p, k => by
  by_cases he : p.e = 0
  ·rw [patF, if_neg (by rw [he]; simp)]
   by_cases hk : (nxt L (deeperP L p)).k = 2
   ·rw [if_pos hk]; exact pat_con b L hL n (patF L n) (pat_c b L hL n) (patF_adv n) p k he hk _ rfl
   ·rw [if_neg hk]; exact pat_non b L hL n (patF L n) (pat_c b L hL n) (patF_adv n) p k he hk
  ·rw [patF, if_pos he]; exact pat_err b L p he
theorem patP_c (b : Nat) (L : List Tok) (hL : L.length ≤ 100000) (n : Nat) (p : PS) (k : POk L n p) : MCall Tryz.prog 131 [.ptr b 0] (.loc b (psC L p)) (.agg (patP L p).1.cells) (.loc b (psC L (patP L p).2)) := pat_c b L hL 302 p (k.up (by decide))
end Go.Proofs.YtknodnfbaofngaaGreat
namespace Go.Proofs.YtknodnfbaofngaaGreat
open Go.RowKit
def rowT (i : Nat) : List (List UInt8) := rowsT.getD i []
structure TblAt (w : World) (B : Nat) : Prop where
 row : ∀ i, i < 7 → w.cell? ⟨B + 7, i, none⟩ = some (.slice (some ⟨B + i, 0, none⟩) (rowT i).length (rowT i).length)
 str : ∀ i, i < 7 → ∀ k, k < (rowT i).length → w.cell? ⟨B + i, k, none⟩ = some (.string ⟨((rowT i).getD k []).toArray⟩)
theorem seven {i : Nat} (h : i < 7) : i = 0 ∨ i = 1 ∨ i = 2 ∨ i = 3 ∨ i = 4 ∨ i = 5 ∨ i = 6 := by omega
theorem rowlen (i : Nat) (h : i < 7) : (rowT i).length ≤ 6 := by
 rcases seven h with rfl | rfl | rfl | rfl | rfl | rfl | rfl <;> decide
def missTo (op : List UInt8) (i : Nat) : Prop := ∀ j, j < 7 → j < i → (rowT j).contains op = false
theorem rowT_get {j : Nat} (h : j < rowsT.length) : rowsT[j] = rowT j := by simp [rowT, List.getD, h]
theorem lvl_at {op : List UInt8} {i : Nat} (hi : i < 7) (hm : missTo op i) (hc : (rowT i).contains op = true) : lvl op = i + 1 := by
 unfold lvl
 congr 1
 have hi' : i < rowsT.length := hi
 rw [List.findIdx_eq hi']
 refine ⟨by rw [rowT_get hi']; exact hc, fun j hj => ?_⟩
 have hj' : j < rowsT.length := by omega
 rw [rowT_get hj']
 exact hm j hj' hj
theorem lvl_8 {op : List UInt8} (hm : missTo op 7) : lvl op = 8 := by
 unfold lvl
 have : rowsT.findIdx (fun r => r.contains op) = rowsT.length := by
  rw [List.findIdx_eq_length]
  intro r hr
  obtain ⟨j, hj, rfl⟩ := List.getElem_of_mem hr
  rw [rowT_get hj]
  exact hm j hj hj
 rw [this]; rfl
theorem miss_row {op : List UInt8} {i : Nat} (h : ∀ k, k < (rowT i).length → (rowT i).getD k [] ≠ op) : (rowT i).contains op = false := by
 rw [List.contains_eq_mem, decide_eq_false_iff_not]
 intro hm
 obtain ⟨k, hk, e⟩ := List.getElem_of_mem hm
 exact h k hk (by simp [List.getD, hk, e])
theorem hit_row {op : List UInt8} {i k : Nat} (hk : k < (rowT i).length) (h : (rowT i).getD k [] = op) : (rowT i).contains op = true := by
 rw [List.contains_eq_mem, decide_eq_true_eq]
 have : (rowT i)[k] = op := by simpa [List.getD, hk] using h
 rw [← this]; exact List.getElem_mem hk
set_option maxHeartbeats 4000000 in
theorem rLevel_c (s : ByteArray) (w : World) : Calls Tryz.prog 125 #[.string s] w fun e w' => e = .returned (.int .i64 (lvl s.toList : Nat)) ∧ Below w.heap.size w w' := by
 go_enter Tryz.func125, Tryz.ntmps125
 go_wp2
 go_loopw [4, 5] (fun vi _ wr => ∃ i : Nat, i ≤ 7 ∧ vi = .int .i64 i ∧ missTo s.toList i ∧ TblAt wr w.heap.size ∧ Below w.heap.size w wr) (fun vi _ _ => 7 - (intOf vi).toNat)
 case atStart =>
  refine ⟨0, by omega, J, fun j h hj => by omega, ⟨?_, ?_⟩, ?_⟩
  ·intro i h
   rw [World.cell?_alloc_at _ _ _ _ (by simp only [World.size_alloc])]
   rcases seven h with rfl | rfl | rfl | rfl | rfl | rfl | rfl <;> rfl
  ·intro i h k hk
   rcases seven h with rfl | rfl | rfl | rfl | rfl | rfl | rfl
   all_goals
    have hk6 : k = 0 ∨ k = 1 ∨ k = 2 ∨ k = 3 ∨ k = 4 ∨ k = 5 := by have := rowlen _ h; omega
    rcases hk6 with rfl | rfl | rfl | rfl | rfl | rfl
    all_goals first | (exact absurd hk (by decide)) | skip
    all_goals
     repeat (rw [World.cell?_alloc_past _ _ _ (by simp only [World.size_alloc]; omega)])
     rw [World.cell?_alloc_at _ _ _ _ (by first | rfl | (simp only [World.size_alloc]; done) | (simp only [World.size_alloc]; omega))]
     rfl
  ·exact (((((((((Below.refl _ _).alloc (Nat.le_refl _) _).alloc (by simp) _).alloc (by simp; omega) _).alloc (by simp; omega) _).alloc (by simp; omega) _).alloc (by simp; omega) _).alloc (by simp; omega) _).alloc (by simp; omega) _)
 case round =>
  obtain ⟨i, hi, rfl, hm, hT, hbel⟩ := hrel
  by_cases hi7 : i < 7
  ·have hr := hT.row i hi7
   have hl := rowlen i hi7
   obtain ⟨n, hn⟩ : ∃ n, n = (rowT i).length := ⟨_, rfl⟩
   rw [← hn] at hr hl
   have HN := Lib.hid hn
   have HM := Lib.hid hm
   clear hn hm
   have d1 : decide ((i : Int) < 7) = true := by simp; omega
   go_wp2
   go_loop [5] (fun vk => ∃ k : Nat, k ≤ n ∧ vk = .int .i64 k ∧ ∀ j, j < k → (rowT i).getD j [] ≠ s.toList) (fun vk => n - (intOf vk).toNat)
   case atStart => exact ⟨0, by omega, rfl, fun j hj => by omega⟩
   case round =>
    obtain ⟨k, hk, rfl, hmk⟩ := hrel
    have HMK := Lib.hid hmk
    clear hmk
    by_cases hkn : k < n
    ·have cs := hT.str i hi7 k (by rw [← HN.out]; exact hkn)
     obtain ⟨sk, hsk⟩ : ∃ sk : ByteArray, sk = ⟨((rowT i).getD k []).toArray⟩ := ⟨_, rfl⟩
     have es : sk.toList = (rowT i).getD k [] := by rw [ByteArray.toList_eq, hsk]
     rw [← hsk] at cs
     clear hsk
     have HES := Lib.hid es
     clear es
     by_cases heq : (sk.toList == s.toList) = true
     ·go_wp2
      go_ret
      have h1 : (rowT i).getD k [] = s.toList := by rw [← HES.out]; simpa using heq
      exact ⟨by rw [lvl_at hi7 HM.out (hit_row (by rw [← HN.out]; exact hkn) h1)]; rfl, hbel⟩
     ·have heq' : (sk.toList == s.toList) = false := by simpa using heq
      clear heq
      go_wp2
      go_round
      case rel => exact ⟨k + 1, by omega, by go_num, fun j hj => by
       by_cases e : j = k
       ·subst e; rw [← HES.out]; exact beq_eq_false_iff_ne.1 heq'
       ·exact HMK.out j (by omega)⟩
      case measure => simp [intOf]; omega
    ·go_wp2
     go_roundw
     case rel => exact ⟨i + 1, by omega, by go_num, fun j h hj => by
      by_cases e : j = i
      ·subst e; exact miss_row (fun k' hk' => HMK.out k' (by have := HN.out; omega))
      ·exact HM.out j h (by omega), hT, hbel⟩
     case measure => simp [intOf]; omega
  ·have he : i = 7 := by omega
   subst he
   go_wp2
   go_ret
   exact ⟨by rw [lvl_8 hm]; rfl, hbel⟩
theorem Level_p (s : ByteArray) : PCall Tryz.prog 125 [.val (.string s)] (.val (.int .i64 (lvl s.toList : Nat))) :=
 PCall.of_calls (vs := [.string s]) (enters_of Tryz.func125 (by kernel_rfl) rfl) (fun w => rLevel_c s w)
theorem Level_at (ops : List Tok) (i : Nat) : PCall Tryz.prog 125 [.val (.string ((ops[i]?).getD (tok0 0)).t)] (.val (.int .i64 (lvT ops i : Nat))) := Level_p _
theorem strs_at {ops : List Tok} {i : Nat} (h : i < ops.length) : (strs (ops.map Tok.t))[i]? = some [.val (.string ((ops[i]?).getD (tok0 0)).t)] := by
 simp [strs, List.getElem?_eq_getElem h]
theorem sideN_8 (l : Nat) : ((sideN l : Nat) : Int) = if (l : Int) = 4 then 0 else if (l : Int) < 6 then 2 else 1 := by
 unfold sideN
 repeat' split
 all_goals first | rfl | omega
theorem back_eq {lv : Nat → Nat} {j : Nat} (h : ¬ (0 < j ∧ 4 < lv (j - 1))) : backL lv j = true ↔ (0 < j ∧ lv (j - 1) = 4) := by
 cases j with
 | zero => simp [backL]
 | succ j =>
  simp only [Nat.add_sub_cancel] at h ⊢
  rw [backL, if_neg (fun q => h ⟨Nat.succ_pos j, q⟩)]
  simp
set_option maxHeartbeats 4000000 in
set_option maxRecDepth 100000 in
theorem Side_p (l : Nat) : PCall Tryz.prog 126 [.val (.int .i64 (l : Nat))] (.val (.int .i64 (sideN l : Nat))) := by
 rw [sideN_8]
 refine Zv Tryz.func126 J (by kernel_rfl) J (Uc J) ?_
 refine Yg ?_
 refine Zg (Zc ?_)
 refine Za 2 J J J (Ze J J ?_)
 refine Vp (Zb (Zg (Zg (Zc ?_))))
 refine Za 3 J J J (Zd J J ?_)
 refine Za 4 J J J (Yv J J J ?_); intro c4 h4
 refine Vp (Zb ?_)
 rcases Zh h4 with ⟨rfl, g4⟩ | ⟨rfl, g4⟩
 ·refine Zn J (Zt (Zb (Zg (Zg (Zc ?_)))))
  refine Za 5 J J J (Zd J J ?_)
  refine Za 6 J J J (Yt J J J ?_); intro c6 h6
  refine Vp (Zb ?_)
  rcases Zh h6 with ⟨rfl, g6⟩ | ⟨rfl, g6⟩
  ·refine Zn J (Zt (Zb (Zg (Zc ?_))))
   refine Za 2 J J J (Ze J J ?_)
   refine Vp (Zb ?_)
   refine Ya ?_
   exact Yi J J (Vw _) by3 ⟨by rw [if_neg g4, if_neg g6], J⟩
  ·refine Zq J (Zg (Zc ?_))
   refine Za 2 J J J (Ze J J ?_)
   refine Vp (Zb ?_)
   refine Ya ?_
   exact Yi J J (Vw _) by3 ⟨by rw [if_neg g4, if_pos g6], J⟩
 ·refine Zq J (Zg (Zc ?_))
  refine Za 2 J J J (Ze J J ?_)
  refine Vp (Zb ?_)
  refine Ya ?_
  exact Yi J J (Vw _) by3 ⟨by rw [if_pos g4], J⟩
set_option maxHeartbeats 4000000 in
set_option maxRecDepth 100000 in
theorem Clash_p (ops : List Tok) (h : ops.length ≤ 200000) : PCall Tryz.prog 106 [.seq 1 (strs (ops.map Tok.t))] (.val (.int .i64 (clashP ops))) := by
 have hl : (strs (ops.map Tok.t)).length = ops.length := by simp [strs]
 have hC : clashP ops = clashL (lvT ops) (ops.length - 0) 0 := rfl
 generalize clashP ops = r at *
 refine Zv Tryz.func106 J (by kernel_rfl) J (Uc J) ?_
 refine Yg ?_
 refine Zg (Zc ?_)
 refine Za 2 J J J (Ze J J ?_)
 refine Vp (Zb (Zg (Zg (Zc ?_))))
 refine Za 3 J J J (Ze J J ?_)
 refine Vp (Zb (Zz ?_))
 apply Xj [1, 2, 3, 4, 5, 6, 7, 8, 9, 10, 11, 12, 13, 14, 15, 16, 17, 18, 19, 20, 21, 22, 23, 24, 25, 26, 27, 28, 29, 30, 31, 32, 33, 34, 35, 36, 37, 38, 39, 40, 41] (σ := Nat) (fun zz => match zz with | k => [(3, .val (.int .i64 k))]) (fun zz => match zz with | k => k ≤ ops.length ∧ r = clashL (lvT ops) (ops.length - k) k) (fun zz => match zz with | k => ops.length - k) (0)
 ·repeat' (first | exact Uf | apply Ud rfl | apply Ue rfl)
 ·exact ⟨Nat.zero_le _, hC⟩
 ·exact by4
 rintro k hI
 try dsimp only [List.cons_append, List.nil_append] at hI ⊢
 obtain ⟨h1, hu⟩ := hI
 refine Zg (Zg (Zc ?_))
 refine Za 5 J J J (Zd J J ?_)
 refine Za 6 J J J (Zd J J ?_)
 refine Za 7 J J J (Yy J tu_68 J (.seq _ _) (fun n7 => ?_))
 refine Za 8 J J J (Yt J J J ?_); intro c8 h8
 refine Vp (Zb ?_)
 rcases Zh h8 with ⟨rfl, g8⟩ | ⟨rfl, g8⟩
 ·refine Zn J (Xb (Yz (Xt (Xa (Zb (Zg (Zc ?_)))))))
  refine Za 2 J J J (Ze J J ?_)
  refine Vp (Zb ?_)
  refine Ya ?_
  rw [show ops.length - k = 0 by omega, clashL] at hu; exact Yi rfl rfl (Vw _) by3 ⟨by rw [hu], rfl⟩
 ·refine Zq J (Zt (Zb (Zg (Zz (Zg (Zg ?_))))))
  obtain ⟨d, hd⟩ : ∃ d, ops.length - k = d + 1 := ⟨ops.length - k - 1, by omega⟩
  rw [hd, clashL] at hu
  have hd2 : d = ops.length - (k + 1) := by omega
  rw [hd2] at hu
  refine Zc ?_
  refine Za 11 J J J (Zd J J ?_)
  refine Za 12 J J J (Zd J J ?_)
  refine Za 13 J J J (Yd J te_68 J (.seq _ _) J J (strs_at (ops := ops) (i := k) (by omega)) ?_)
  refine Za 14 J J J (Zr J Xc J J ?_)
  refine Za 15 J J J (Ym (xs := [.tmp 14]) J J (Level_at ops k) by1 ?_)
  refine Za 16 J J J (Xv J J J ?_); intro c16 h16
  refine Vp (Zb ?_)
  rcases Zh h16 with ⟨rfl, g16⟩ | ⟨rfl, g16⟩
  ·refine Zn J (Zt (Zb (Zg (Zc ?_))))
   refine Za 17 J J J (Zd J J ?_)
   refine Za 18 J J J (op_sub J J J (Ug _ (by omega)) ?_)
   refine Za 4 J J J (Ze J J ?_)
   refine Vp (Zb (Zg (Zz ?_)))
   apply Xj [1, 4, 19, 20, 21, 22, 23, 24, 25, 26, 27, 28, 29, 30] (σ := Nat) (fun zz => match zz with | j => [(4, .val (.int .i64 ((j : Int) - 1)))]) (fun zz => match zz with | j => j ≤ k ∧ backL (lvT ops) k = backL (lvT ops) j) (fun zz => match zz with | j => j) (k)
   ·repeat' (first | exact Uf | apply Ud rfl | apply Ue rfl)
   ·exact ⟨Nat.le_refl _, J⟩
   ·exact by4
   rintro j hI
   try dsimp only [List.cons_append, List.nil_append] at hI ⊢
   obtain ⟨h2, hb⟩ := hI
   refine Zg (Zg ?_)
   refine Xk 28 (0 < j ∧ 4 < lvT ops (j - 1)) ?_ _ _ J ?_
   ·skip
    refine Za 19 J J J (Zd J J ?_)
    refine Za 20 J J J (Wj J J J ?_); intro c20 h20
    refine Za 21 J J J (Zd J J ?_)
    rcases Zh h20 with ⟨rfl, g20⟩ | ⟨rfl, g20⟩
    ·skip
     refine Zi 22 J J J J J ?_
     refine Zi 23 J J J J J ?_
     refine Zi 24 J J J J J ?_
     refine Zi 25 J J J J J ?_
     refine Zi 26 J J J J J ?_
     refine Zi 27 J J J J J ?_
     refine Za 28 J J J (Zp J J J ?_)
     refine Vp ?_
     refine Ua J ?_ by5 by3
     first | (simp_all; done) | (simp_all; omega) | grind
    ·skip
     refine Zk 22 J J J J J (Zd J J ?_)
     refine Zk 23 J J J J J (Zd J J ?_)
     refine Zk 24 J J J J J (Yd (i := (j - 1)) J te_68 J (.seq _ _) J (by first | rfl | omega) (strs_at (ops := ops) (i := j - 1) (by omega)) ?_)
     refine Zk 25 J J J J J (Zr J Xc J J ?_)
     refine Zk 26 J J J J J (Ym (xs := [.tmp 25]) J J (Level_at ops (j - 1)) by1 ?_)
     refine Zk 27 J J J J J (Vc J J J ?_); intro c27 h27
     refine Za 28 J J J (Zp J J J ?_)
     refine Vp ?_
     refine Ua J ?_ by5 by3
     first | (simp_all; done) | (simp_all; omega) | grind
   intro c28 h28
   refine Zb ?_
   rcases Zh h28 with ⟨rfl, g28⟩ | ⟨rfl, g28⟩
   ·refine Zn J (Xb (Yz (Xt (Xa (Zb (Zg ?_))))))
    refine Xk 40 (0 < j ∧ lvT ops (j - 1) = 4) ?_ _ _ J ?_
    ·skip
     refine Za 31 J J J (Zd J J ?_)
     refine Za 32 J J J (Wj J J J ?_); intro c32 h32
     refine Za 33 J J J (Zd J J ?_)
     rcases Zh h32 with ⟨rfl, g32⟩ | ⟨rfl, g32⟩
     ·skip
      refine Zi 34 J J J J J ?_
      refine Zi 35 J J J J J ?_
      refine Zi 36 J J J J J ?_
      refine Zi 37 J J J J J ?_
      refine Zi 38 J J J J J ?_
      refine Zi 39 J J J J J ?_
      refine Za 40 J J J (Zp J J J ?_)
      refine Vp ?_
      refine Ua J ?_ by5 by3
      first | (simp_all; done) | (simp_all; omega) | grind
     ·skip
      refine Zk 34 J J J J J (Zd J J ?_)
      refine Zk 35 J J J J J (Zd J J ?_)
      refine Zk 36 J J J J J (Yd (i := (j - 1)) J te_68 J (.seq _ _) J (by first | rfl | omega) (strs_at (ops := ops) (i := j - 1) (by omega)) ?_)
      refine Zk 37 J J J J J (Zr J Xc J J ?_)
      refine Zk 38 J J J J J (Ym (xs := [.tmp 37]) J J (Level_at ops (j - 1)) by1 ?_)
      refine Zk 39 J J J J J (Yv J J J ?_); intro c39 h39
      refine Za 40 J J J (Zp J J J ?_)
      refine Vp ?_
      refine Ua J ?_ by5 by3
      first | (simp_all; done) | (simp_all; omega) | grind
    intro c40 h40
    refine Zb ?_
    rcases Zh h40 with ⟨rfl, g40⟩ | ⟨rfl, g40⟩
    ·refine Zn J (Zt ?_)
     refine Yr ?_
     refine Zb (Zc ?_)
     refine Za 9 J J J (Zd J J ?_)
     refine Za 10 J J J (Ys J J J (Ug _ (by omega)) ?_)
     refine Za 3 J J J (Ze J J ?_)
     refine Vp ?_
     refine Yx ?_
     have hu2 : r = clashL (lvT ops) (ops.length - (k + 1)) (k + 1) := by
      first
       | (rw [if_neg (fun q => g40 ((back_eq g28).1 (by rw [← hb]; exact q.2)))] at hu; exact hu)
       | (rw [if_neg (fun q => g16 (by omega))] at hu; exact hu)
     exact ⟨k + 1, ⟨by omega, hu2⟩, by show ops.length - (k + 1) < ops.length - k; omega, Vz J (Le.inteq (by omega)) by4, by3⟩
    ·refine Zq J (Zg (Zc ?_))
     refine Za 41 J J J (Zd J J ?_)
     refine Za 2 J J J (Ze J J ?_)
     refine Vp (Zb ?_)
     refine Ya ?_
     rw [if_pos ⟨by omega, by rw [hb]; exact (back_eq g28).2 g40⟩] at hu; exact Yi rfl rfl (Vw _) by3 ⟨by rw [hu], rfl⟩
   ·refine Zq J (Zt (Zb (Zz ?_)))
    obtain ⟨j, rfl⟩ : ∃ j', j = j' + 1 := ⟨j - 1, by omega⟩
    simp only [Nat.add_sub_cancel] at g28
    rw [backL, if_pos g28.2] at hb
    refine Zc ?_
    refine Za 29 J J J (Zd J J ?_)
    refine Za 30 J J J (op_sub J J J (Ug _ (by omega)) ?_)
    refine Za 4 J J J (Ze J J ?_)
    refine Vp ?_
    refine Yr ?_
    refine Yx ?_
    exact ⟨j, ⟨by omega, hb⟩, Nat.lt_succ_self j, Vz J (Le.inteq (by omega)) by4, by3⟩
  ·refine Zq J (Xb (Yz (Xa (Zb (Zc ?_)))))
   refine Za 9 J J J (Zd J J ?_)
   refine Za 10 J J J (Ys J J J (Ug _ (by omega)) ?_)
   refine Za 3 J J J (Ze J J ?_)
   refine Vp ?_
   refine Yx ?_
   have hu2 : r = clashL (lvT ops) (ops.length - (k + 1)) (k + 1) := by
    first
     | (rw [if_neg (fun q => g40 ((back_eq g28).1 (by rw [← hb]; exact q.2)))] at hu; exact hu)
     | (rw [if_neg (fun q => g16 (by omega))] at hu; exact hu)
   exact ⟨k + 1, ⟨by omega, hu2⟩, by show ops.length - (k + 1) < ops.length - k; omega, Vz J (Le.inteq (by omega)) by4, by3⟩
abbrev zEx : List AV := [.val (.int .i64 0), .val (.string kE), .val (.int .i64 0), .val (.int .i64 0), .val (.string kE), .val (.int .i64 0), .val (.slice none 0 0), .val (.slice none 0 0), .val (.slice none 0 0), .val (.slice none 0 0), .val (.int .i64 0)]
theorem rootB_in (ops : List Tok) : ∀ (f a i lo : Nat), lo ≤ a → a < i → lo ≤ rootB ops f a i ∧ rootB ops f a i < i + f
 | 0, a, i, lo, h1, h2 => ⟨h1, h2⟩
 | f + 1, a, i, lo, h1, h2 => by
  unfold rootB
  split
  ·have := rootB_in ops f i (i + 1) lo (by omega) (Nat.lt_succ_self i); omega
  ·have := rootB_in ops f a (i + 1) lo h1 (by omega); omega
theorem toks_at {ops : List Tok} {i : Nat} (h : i < ops.length) : (ops.map Tok.av)[i]? = some ((ops[i]?).getD (tok0 0)).av := by
 simp [List.getElem?_eq_getElem h]
theorem exs_at {l : List Ex} {i : Nat} (h : i < l.length) : (Ex.cellss l)[i]? = some ((l[i]?).getD ex0).cells := by
 rw [Ex.cellss_map]; simp [List.getElem?_eq_getElem h]
set_option maxHeartbeats 4000000 in
set_option maxRecDepth 100000 in
theorem Build_one (l : List Ex) (ops : List Tok) (hl : l.length = ops.length + 1) (a : Nat) (ha : a ≤ ops.length) : PCall Tryz.prog 107 [.seq 11 (Ex.cellss l), .seq 4 (ops.map Tok.av), .val (.int .i64 a), .val (.int .i64 a)] (.agg ((l[a]?).getD ex0).cells) := by
 have hx := exs_at (l := l) (i := a) (by omega)
 obtain ⟨⟨xk, xs, xn, ⟨xtk, xts, xtn, xtl⟩, xks, xal, xbs, xp⟩, e⟩ : ∃ x, (l[a]?).getD ex0 = x := ⟨_, rfl⟩
 rw [e] at hx ⊢
 refine Zv Tryz.func107 J (by kernel_rfl) J (Uc J) ?_
 refine Yg ?_
 refine Zg (Zc ?_)
 refine Za 8 J J J (Zw (cs' := [_, _, _, _, _, _, _, _, _, _, _]) J Xz J J ?_); intro b8
 refine Vp (Zb (Zg (Zg (Zc ?_))))
 refine Za 17 J J J (Zd J J ?_)
 refine Za 18 J J J (Zd J J ?_)
 refine Za 19 J J J (Yv J J J ?_); intro c19 h19
 refine Vp (Zb ?_)
 rcases Zh h19 with ⟨rfl, g19⟩ | ⟨rfl, g19⟩
 ·exact absurd J g19
 ·refine Zq J (Zg (Zc ?_))
  refine Za 20 J J J (Zd J J ?_)
  refine Za 21 J J J (Zd J J ?_)
  refine Za 22 J J J (Yd J te_107 J (.seq _ _) J J (hx) ?_)
  refine Za 23 J J J (Yc (cs' := [_, _, _, _, _, _, _, _, _, _, _]) J Wb J J J ?_)
  refine Zo J J (Zm (cs' := [_, _, _, _, _, _, _, _, _, _, _]) (i := 0) J Wk J J J J J (Uc J) J ?_)
  refine Vp (Zb ?_)
  refine Ya ?_
  exact Yj (i := 0) J J J Wb J (Vw _) by3 ⟨J, J⟩
set_option maxHeartbeats 4000000 in
set_option maxRecDepth 100000 in
theorem Build_two (l : List Ex) (ops : List Tok) (hL : ops.length ≤ 200000) (a b d : Nat) (hab : a < b) (hb : b ≤ ops.length) (hd : b - a ≤ d + 1)
    (IH : ∀ a b, a ≤ b → b ≤ ops.length → b - a ≤ d → PCall Tryz.prog 107 [.seq 11 (Ex.cellss l), .seq 4 (ops.map Tok.av), .val (.int .i64 a), .val (.int .i64 b)] (.agg (buildF l ops d a b).cells)) :
    PCall Tryz.prog 107 [.seq 11 (Ex.cellss l), .seq 4 (ops.map Tok.av), .val (.int .i64 a), .val (.int .i64 b)] (.agg (buildF l ops (d + 1) a b).cells) := by
 rw [buildF, if_neg (by omega)]
 obtain ⟨r, hr⟩ : ∃ r, rootB ops (b - (a + 1)) a (a + 1) = r := ⟨_, rfl⟩
 have hin := rootB_in ops (b - (a + 1)) a (a + 1) a (Nat.le_refl _) (Nat.lt_succ_self a)
 rw [hr] at hin ⊢
 have H1 := IH a r hin.1 (by omega) (by omega)
 have H2 := IH (r + 1) b (by omega) hb (by omega)
 have hop := toks_at (ops := ops) (i := r) (by omega)
 obtain ⟨⟨xk, xs, xn, ⟨xtk, xts, xtn, xtl⟩, xks, xal, xbs, xp⟩, e1⟩ : ∃ x, buildF l ops d a r = x := ⟨_, rfl⟩
 obtain ⟨⟨yk, ys, yn, ⟨ytk, yts, ytn, ytl⟩, yks, yal, ybs, yp⟩, e2⟩ : ∃ x, buildF l ops d (r + 1) b = x := ⟨_, rfl⟩
 obtain ⟨⟨ok, ot, on, oa⟩, e3⟩ : ∃ x, (ops[r]?).getD (tok0 0) = x := ⟨_, rfl⟩
 rw [e1] at H1 ⊢
 rw [e2] at H2 ⊢
 rw [e3] at hop ⊢
 simp only [Ex.cells, Ty.cells, List.cons_append, List.nil_append, Tok.av] at H1 H2 hop
 clear IH
 obtain ⟨z, hz⟩ : ∃ z, binE (Tok.mk ok ot on oa) (Ex.mk xk xs xn (Ty.mk xtk xts xtn xtl) xks xal xbs xp) (Ex.mk yk ys yn (Ty.mk ytk yts ytn ytl) yks yal ybs yp) = z := ⟨_, rfl⟩
 rw [hz]
 unfold binE at hz
 simp only [] at hz
 refine Zv Tryz.func107 J (by kernel_rfl) J (Uc J) ?_
 refine Yg ?_
 refine Zg (Zc ?_)
 refine Za 8 J J J (Zw (cs' := [_, _, _, _, _, _, _, _, _, _, _]) J Xz J J ?_); intro b8
 refine Vp (Zb (Zg (Zg (Zc ?_))))
 refine Za 17 J J J (Zd J J ?_)
 refine Za 18 J J J (Zd J J ?_)
 refine Za 19 J J J (Yv J J J ?_); intro c19 h19
 refine Vp (Zb ?_)
 rcases Zh h19 with ⟨rfl, g19⟩ | ⟨rfl, g19⟩
 ·refine Zn J (Zt (Zb (Zg (Zc ?_))))
  refine Za 24 J J J (Zd J J ?_)
  refine Za 9 J J J (Ze J J ?_)
  refine Vp (Zb (Zg (Zg (Zc ?_))))
  refine Za 25 J J J (Zd J J ?_)
  refine Za 26 J J J (Ys J J J (Ug _ (by omega)) ?_)
  refine Za 10 J J J (Ze J J ?_)
  refine Vp (Zb (Zz ?_))
  apply Xj [4, 5, 6, 7, 9, 10, 11, 12, 17, 18, 19, 20, 21, 22, 23, 24, 25, 26, 27, 28, 29, 30, 31, 32, 33, 34, 35, 36, 37, 38, 39, 40, 41, 42, 43, 44, 45, 46, 47, 48, 49, 50, 51, 52, 53, 54, 55, 56, 57] (σ := Nat × Nat) (fun zz => match zz with | (t, i) => [(9, .val (.int .i64 t)), (10, .val (.int .i64 i))]) (fun zz => match zz with | (t, i) => a ≤ t ∧ t < i ∧ i ≤ b ∧ rootB ops (b - i) t i = r) (fun zz => match zz with | (t, i) => b - i) ((a, a + 1))
  ·repeat' (first | exact Uf | apply Ud rfl | apply Ue rfl)
  ·exact ⟨Nat.le_refl _, Nat.lt_succ_self a, hab, hr⟩
  ·exact by4
  rintro ⟨t, i⟩ hI
  try dsimp only [List.cons_append, List.nil_append] at hI ⊢
  obtain ⟨h1, h2, h3, hu⟩ := hI
  refine Zg (Zg (Zc ?_))
  refine Za 27 J J J (Zd J J ?_)
  refine Za 28 J J J (Zd J J ?_)
  refine Za 29 J J J (Yt J J J ?_); intro c29 h29
  refine Vp (Zb ?_)
  rcases Zh h29 with ⟨rfl, g29⟩ | ⟨rfl, g29⟩
  ·refine Zn J (Xb (Yz (Xt (Xa (Zb (Zg ?_))))))
   rw [show b - i = 0 by omega, rootB] at hu
   subst hu
   refine Zc ?_
   refine Za 58 J J J (Zd J J ?_)
   refine Za 59 J J J (Zd J J ?_)
   refine Za 60 J J J (Zd J J ?_)
   refine Za 61 J J J (Zd J J ?_)
   refine Za 62 J J J (Ym (xs := [.tmp 58, .tmp 59, .tmp 60, .tmp 61]) J J (H1) by1 ?_)
   refine Za 13 J J J (Zw (cs' := [_, _, _, _, _, _, _, _, _, _, _]) J Xz J J ?_); intro b13
   refine Zo J J (Zm (cs' := [_, _, _, _, _, _, _, _, _, _, _]) (i := 0) J Wk J J J J J (Uc J) J ?_)
   refine Vp (Zb (Zg (Zc ?_)))
   refine Za 63 J J J (Zd J J ?_)
   refine Za 64 J J J (Zd J J ?_)
   refine Za 65 J J J (Zd J J ?_)
   refine Za 66 J J J (Ys J J J (Ug _ (by omega)) ?_)
   refine Za 67 J J J (Zd J J ?_)
   refine Za 68 J J J (Ym (xs := [.tmp 63, .tmp 64, .tmp 66, .tmp 67]) J J (H2) by1 ?_)
   refine Za 14 J J J (Zw (cs' := [_, _, _, _, _, _, _, _, _, _, _]) J Xz J J ?_); intro b14
   refine Zo J J (Zm (cs' := [_, _, _, _, _, _, _, _, _, _, _]) (i := 0) J Wk J J J J J (Uc J) J ?_)
   refine Vp (Zb (Zg (Zc ?_)))
   refine Za 69 J J J (Zd J J ?_)
   refine Za 70 J J J (Zd J J ?_)
   refine Za 71 J J J (Yd J te_93 J (.seq _ _) J J (hop) ?_)
   refine Za 72 J J J (Yc (cs' := [_, _, _, _]) J Yq J J J ?_)
   refine Za 15 J J J (Zw (cs' := [_, _, _, _]) J Wh J J ?_); intro b15
   refine Zo J J (Zm (cs' := [_, _, _, _]) (i := 0) J Xl J J J J J (Uc J) J ?_)
   refine Vp (Zb (Zg (Zg (Zc ?_))))
   refine Za 73 J J J (Zf J Xf J ?_)
   refine Za 74 J J J (Zl (i := 0) J Xc J J J ?_)
   refine Za 75 J J J (Xr J J J ?_); intro c75 h75
   refine Vp (Zb ?_)
   rcases Zh h75 with ⟨rfl, g75⟩ | ⟨rfl, g75⟩
   ·refine Zn J (Zt (Zb (Zg (Zg (Zc ?_)))))
    refine Za 82 J J J (Zf J Xf J ?_)
    refine Za 83 J J J (Zl (i := 0) J Xc J J J ?_)
    refine Za 84 J J J (Xr J J J ?_); intro c84 h84
    refine Vp (Zb ?_)
    rcases Zh h84 with ⟨rfl, g84⟩ | ⟨rfl, g84⟩
    ·refine Zn J (Zt (Zb (Zg (Zc ?_))))
     refine Za 91 J J J (Zf J Xf J ?_)
     refine Za 92 J J J (Zl (i := 0) J Xc J J J ?_)
     refine Za 93 J J J (Zf J Wv J ?_)
     refine Za 94 J J J (Zl (i := 0) J Xh J J J ?_)
     refine Za 95 J J J (Yk (ns := [0, 1, 7]) (xs := [.const (.int .i64 3), .tmp 92, .tmp 94]) J Xz J tfl_110 J J J J ?_)
     refine Za 16 J J J (Zw (cs' := [_, _, _, _, _, _, _, _, _, _, _]) J Xz J J ?_); intro b16
     refine Zo J J (Zm (cs' := [_, _, _, _, _, _, _, _, _, _, _]) (i := 0) J Wk J J J J J (Uc J) J ?_)
     refine Vp (Zb (Zg (Zc ?_)))
     refine Za 96 J J J (Zy (cs' := [_, _, _, _, _, _, _, _, _, _, _]) (i := 0) J Wb J J J J ?_)
     refine Za 97 J J J (Zy (cs' := [_, _, _, _, _, _, _, _, _, _, _]) (i := 3) J Wb J J J J ?_)
     refine Za 98 J J J (Ye (xs := [.tmp 96, .tmp 97]) el_107 J J J J J J (Uc J) ?_)
     refine Za 99 J J J (Zf J Wv J ?_)
     refine Za 100 J J J (Zl (i := 1) J Xh J J J ?_)
     refine Za 101 J J J (Yk (ns := [0, 4, 7]) (xs := [.const (.int .i64 5), .tmp 98, .tmp 100]) J Xz J tfl_110 J J J J ?_)
     refine Zo J J (Zm (cs' := [_, _, _, _, _, _, _, _, _, _, _]) (i := 0) J Wk J J J J J (Uc J) J ?_)
     refine Vp (Zb (Zg (Zc ?_)))
     refine Za 102 J J J (Zy (cs' := [_, _, _, _, _, _, _, _, _, _, _]) (i := 0) J Wb J J J J ?_)
     refine Za 103 J J J (Zy (cs' := [_, _, _, _, _, _, _, _, _, _, _]) (i := 2) J Wb J J J J ?_)
     refine Za 104 J J J (Ye (xs := [.tmp 102, .tmp 103]) el_107 J J J J J J (Uc J) ?_)
     refine Za 105 J J J (Zf J Wv J ?_)
     refine Za 106 J J J (Zl (i := 1) J Xh J J J ?_)
     refine Za 107 J J J (Yk (ns := [0, 4, 7]) (xs := [.const (.int .i64 5), .tmp 104, .tmp 106]) J Xz J tfl_110 J J J J ?_)
     refine Zo J J (Zm (cs' := [_, _, _, _, _, _, _, _, _, _, _]) (i := 4) J Wk J J J J J (Uc J) J ?_)
     refine Vp (Zb ?_)
     refine Ya ?_
     rw [if_neg g75, if_neg g84] at hz; subst hz; exact Yj (i := 4) rfl rfl rfl Wb rfl by0 by3 ⟨rfl, rfl⟩
    ·refine Zq J (Zg (Zc ?_))
     refine Za 85 J J J (Zy (cs' := [_, _, _, _, _, _, _, _, _, _, _]) (i := 2) J Wb J J J J ?_)
     refine Za 86 J J J (Zy (cs' := [_, _, _, _, _, _, _, _, _, _, _]) (i := 1) J Wb J J J J ?_)
     refine Za 87 J J J (Ye (xs := [.tmp 85, .tmp 86]) el_107 J J J J J J (Uc J) ?_)
     refine Za 88 J J J (Zf J Wv J ?_)
     refine Za 89 J J J (Zl (i := 0) J Xh J J J ?_)
     refine Za 90 J J J (Yk (ns := [0, 4, 7]) (xs := [.const (.int .i64 11), .tmp 87, .tmp 89]) J Xz J tfl_110 J J J J ?_)
     refine Zo J J (Zm (cs' := [_, _, _, _, _, _, _, _, _, _, _]) (i := 3) J Wk J J J J J (Uc J) J ?_)
     refine Vp (Zb ?_)
     refine Ya ?_
     rw [if_neg g75, if_pos g84] at hz; subst hz; exact Yj (i := 3) rfl rfl rfl Wb rfl by0 by3 ⟨rfl, rfl⟩
   ·refine Zq J (Zg (Zc ?_))
    refine Za 76 J J J (Zy (cs' := [_, _, _, _, _, _, _, _, _, _, _]) (i := 2) J Wb J J J J ?_)
    refine Za 77 J J J (Zy (cs' := [_, _, _, _, _, _, _, _, _, _, _]) (i := 1) J Wb J J J J ?_)
    refine Za 78 J J J (Ye (xs := [.tmp 76, .tmp 77]) el_107 J J J J J J (Uc J) ?_)
    refine Za 79 J J J (Zf J Wv J ?_)
    refine Za 80 J J J (Zl (i := 0) J Xh J J J ?_)
    refine Za 81 J J J (Yk (ns := [0, 4, 7]) (xs := [.const (.int .i64 10), .tmp 78, .tmp 80]) J Xz J tfl_110 J J J J ?_)
    refine Zo J J (Zm (cs' := [_, _, _, _, _, _, _, _, _, _, _]) (i := 3) J Wk J J J J J (Uc J) J ?_)
    refine Vp (Zb ?_)
    refine Ya ?_
    rw [if_pos g75] at hz; subst hz; exact Yj (i := 3) rfl rfl rfl Wb rfl by0 by3 ⟨rfl, rfl⟩
  ·refine Zq J (Zt (Zb (Zg (Zz (Zg (Zc ?_))))))
   refine Za 32 J J J (Zd J J ?_)
   refine Za 33 J J J (Zd J J ?_)
   refine Za 34 J J J (Yd J te_93 J (.seq _ _) J J (toks_at (ops := ops) (i := t) (by omega)) ?_)
   refine Za 35 J J J (Zj J Xf J J ?_)
   refine Za 36 J J J (Zr J Xc J J ?_)
   refine Za 37 J J J (Ym (xs := [.tmp 36]) J J (Level_at ops t) by1 ?_)
   refine Za 11 J J J (Ze J J ?_)
   refine Vp (Zb (Zg (Zc ?_)))
   refine Za 38 J J J (Zd J J ?_)
   refine Za 39 J J J (Zd J J ?_)
   refine Za 40 J J J (Yd J te_93 J (.seq _ _) J J (toks_at (ops := ops) (i := i) (by omega)) ?_)
   refine Za 41 J J J (Zj J Xf J J ?_)
   refine Za 42 J J J (Zr J Xc J J ?_)
   refine Za 43 J J J (Ym (xs := [.tmp 42]) J J (Level_at ops i) by1 ?_)
   refine Za 12 J J J (Ze J J ?_)
   refine Vp (Zb (Zg ?_))
   refine Xk 56 (lvT ops i < lvT ops t ∨ (lvT ops i = lvT ops t ∧ sideN (lvT ops t) = 1)) ?_ _ _ J ?_
   ·skip
    refine Za 44 J J J (Zd J J ?_)
    refine Za 45 J J J (Zd J J ?_)
    refine Za 46 J J J (Yt J J J ?_); intro c46 h46
    refine Za 47 J J J (Zd J J ?_)
    rcases Zh h46 with ⟨rfl, g46⟩ | ⟨rfl, g46⟩
    ·skip
     refine Zk 48 J J J J J (Zd J J ?_)
     refine Zk 49 J J J J J (Zd J J ?_)
     refine Zk 50 J J J J J (Yv J J J ?_); intro c50 h50
     refine Zk 51 J J J J J (Zd J J ?_)
     rcases Zh h50 with ⟨rfl, g50⟩ | ⟨rfl, g50⟩
     ·skip
      refine Zi 52 J J J J J ?_
      refine Zi 53 J J J J J ?_
      refine Zi 54 J J J J J ?_
      refine Zk 55 J J J J J (Zp J J J ?_)
      refine Za 56 J J J (Zp J J J ?_)
      refine Vp ?_
      refine Ua J ?_ by5 by3
      clear H1 H2; first | (simp_all; done) | (simp_all; omega) | grind
     ·skip
      refine Zk 52 J J J J J (Zd J J ?_)
      refine Zk 53 J J J J J (Ym (xs := [.tmp 52]) J J (Side_p (lvT ops t)) by1 ?_)
      refine Zk 54 J J J J J (Yv J J J ?_); intro c54 h54
      refine Zk 55 J J J J J (Zp J J J ?_)
      refine Za 56 J J J (Zp J J J ?_)
      refine Vp ?_
      refine Ua J ?_ by5 by3
      clear H1 H2; first | (simp_all; done) | (simp_all; omega) | grind
    ·skip
     refine Zi 48 J J J J J ?_
     refine Zi 49 J J J J J ?_
     refine Zi 50 J J J J J ?_
     refine Zi 51 J J J J J ?_
     refine Yp 52 J J J J J ?_
     refine Yp 53 J J J J J ?_
     refine Yp 54 J J J J J ?_
     refine Zi 55 J J J J J ?_
     refine Za 56 J J J (Zp J J J ?_)
     refine Vp ?_
     refine Ua J ?_ by5 by3
     clear H1 H2; first | (simp_all; done) | (simp_all; omega) | grind
   intro c56 h56
   refine Zb ?_
   rcases Zh h56 with ⟨rfl, g56⟩ | ⟨rfl, g56⟩
   ·refine Zn J (Zt ?_)
    refine Yr ?_
    refine Zb ?_
    obtain ⟨f, hf⟩ : ∃ f, b - i = f + 1 := ⟨b - i - 1, by omega⟩
    rw [hf, rootB] at hu
    have hf2 : f = b - (i + 1) := by omega
    rw [hf2] at hu
    refine Zc ?_
    refine Za 30 J J J (Zd J J ?_)
    refine Za 31 J J J (Ys J J J (Ug _ (by omega)) ?_)
    refine Za 10 J J J (Ze J J ?_)
    refine Vp ?_
    refine Yx ?_
    first
    | (rw [if_pos g56] at hu; exact ⟨(i, i + 1), ⟨by show a ≤ i; omega, Nat.lt_succ_self i, by show i + 1 ≤ b; omega, hu⟩, by show b - (i + 1) < b - i; omega, Vz rfl (Vw _) (Vz rfl (Le.inteq (by omega)) by4), by3⟩)
    | (rw [if_neg g56] at hu; exact ⟨(t, i + 1), ⟨h1, by show t < i + 1; omega, by show i + 1 ≤ b; omega, hu⟩, by show b - (i + 1) < b - i; omega, Vz rfl (Vw _) (Vz rfl (Le.inteq (by omega)) by4), by3⟩)
   ·refine Zq J (Zc ?_)
    refine Za 57 J J J (Zd J J ?_)
    refine Za 9 J J J (Ze J J ?_)
    refine Vp ?_
    refine Yr ?_
    refine Zb ?_
    obtain ⟨f, hf⟩ : ∃ f, b - i = f + 1 := ⟨b - i - 1, by omega⟩
    rw [hf, rootB] at hu
    have hf2 : f = b - (i + 1) := by omega
    rw [hf2] at hu
    refine Zc ?_
    refine Za 30 J J J (Zd J J ?_)
    refine Za 31 J J J (Ys J J J (Ug _ (by omega)) ?_)
    refine Za 10 J J J (Ze J J ?_)
    refine Vp ?_
    refine Yx ?_
    first
    | (rw [if_pos g56] at hu; exact ⟨(i, i + 1), ⟨by show a ≤ i; omega, Nat.lt_succ_self i, by show i + 1 ≤ b; omega, hu⟩, by show b - (i + 1) < b - i; omega, Vz rfl (Vw _) (Vz rfl (Le.inteq (by omega)) by4), by3⟩)
    | (rw [if_neg g56] at hu; exact ⟨(t, i + 1), ⟨h1, by show t < i + 1; omega, by show i + 1 ≤ b; omega, hu⟩, by show b - (i + 1) < b - i; omega, Vz rfl (Vw _) (Vz rfl (Le.inteq (by omega)) by4), by3⟩)
 ·omega
theorem Build_c (l : List Ex) (ops : List Tok) (hl : l.length = ops.length + 1) (hL : ops.length ≤ 200000) : ∀ (d a b : Nat), a ≤ b → b ≤ ops.length → b - a ≤ d → PCall Tryz.prog 107 [.seq 11 (Ex.cellss l), .seq 4 (ops.map Tok.av), .val (.int .i64 a), .val (.int .i64 b)] (.agg (buildF l ops d a b).cells)
 | 0, a, b, h1, h2, h3 => by
  obtain rfl : a = b := by omega
  exact Build_one l ops hl a h2
 | d + 1, a, b, h1, h2, h3 => by
  by_cases h : a = b
  ·subst h
   rw [buildF, if_pos rfl]
   exact Build_one l ops hl a h2
  ·exact Build_two l ops hL a b d (by omega) h2 h3 (Build_c l ops hl hL d)
def ExC (b : Nat) (L : List Tok) (n : Nat) (E : PS → Ex × PS) : Prop := ∀ q, POk L n q → MCall Tryz.prog 86 [.ptr b 0] (.loc b (psC L q)) (.agg (E q).1.cells) (.loc b (psC L (E q).2))
theorem take_prog {L : List Tok} {p : PS} {kind : Int} {s : ByteArray} (hk : kind ≠ 0) (h : (takeP L p kind s).2.e = 0) : takeP L p kind s = (nxt L p, stepP p) ∧ p.e = 0 ∧ p.at_ < L.length := by
 unfold takeP at h ⊢
 by_cases q : p.e ≠ 0
 ·rw [if_pos q] at h; exact absurd h q
 ·rw [if_neg q] at h ⊢
  by_cases q2 : (kind < 6 ∧ (nxt L p).k ≠ kind) ∨ (6 ≤ kind ∧ ((nxt L p).k < 6 ∨ (nxt L p).t ≠ s))
  ·rw [if_pos q2] at h; exact absurd h (fail_ne (by decide))
  ·rw [if_neg q2]; exact ⟨rfl, Vo (by omega)⟩
theorem nxt_ok {L : List Tok} {p : PS} (h : (nxt L p).k ≠ 0) : p.e = 0 := (Vo h).1
set_option maxHeartbeats 4000000 in
set_option maxRecDepth 100000 in
theorem bind_c (b : Nat) (L : List Tok) (hL : L.length ≤ 100000) (n : Nat) (E : PS → Ex × PS) (HE : ExC b L n E) (p : PS) (k : POk L n p) : MCall Tryz.prog 56 [.ptr b 0] (.loc b (psC L p)) (.agg (bindG L E p).1.cells) (.loc b (psC L (bindG L E p).2)) := by
 have H1 := pName_c b L hL n p k
 have k1 := (name_adv k).ok k
 have H2 := take_c b L hL _ k1.1 7 kEq
 have k2 := (Yn (kind := 7) (s := kEq) (by decide) k1).ok k1
 have H3 := HE _ k2
 obtain ⟨r, hr⟩ : ∃ r, bindG L E p = r := ⟨_, rfl⟩
 rw [hr]
 unfold bindG at hr
 obtain ⟨⟨⟨tk, tt, tn, ta⟩, p1⟩, e1⟩ : ∃ r, nameP L p = r := ⟨_, rfl⟩
 rw [e1] at H1 H2 H3 hr
 obtain ⟨⟨u2, p2⟩, e2⟩ : ∃ r, takeP L p1 7 kEq = r := ⟨_, rfl⟩
 simp only [] at H2 H3 hr
 rw [e2] at H2 H3 hr
 simp only [] at H2 H3 hr
 obtain ⟨⟨⟨xk, xs, xn, ⟨xtk, xts, xtn, xtl⟩, xks, xal, xbs, xp⟩, p3⟩, e3⟩ : ∃ r, E p2 = r := ⟨_, rfl⟩
 rw [e3] at H3 hr
 simp only [Ex.cells, Ty.cells, List.cons_append, List.nil_append, Tok.av] at H1 H3 hr
 subst hr
 refine Zv Tryz.func56 J (by kernel_rfl) J (Uc J) ?_
 refine Yg ?_
 refine Zg (Zc ?_)
 refine Za 2 J J J (Zw (cs' := [_, _, _, _, _, _, _, _, _, _, _, _, _]) J tz_112 J J ?_); intro b2
 refine Vp (Zb (Zg (Zc ?_)))
 refine Za 4 J J J (Zd J J ?_)
 refine Za 5 J J J (Yh (xs := [.tmp 4]) (i := 1) J J J (H1) by1 ?_)
 refine Za 3 J J J (Zw (cs' := [_, _, _, _]) J Wh J J ?_); intro b3
 refine Zo J J (Zm (cs' := [_, _, _, _]) (i := 0) J Xl J J J J J (Uc J) J ?_)
 refine Vp (Zb (Zg (Zc ?_)))
 refine Za 6 J J J (Zd J J ?_)
 refine Za 7 J J J (Yh (xs := [.tmp 6, .const (.int .i64 7), .const (.string ⟨#[61]⟩)]) (i := 2) J J J (H2) by1 ?_)
 refine Vp (Zb (Zg ?_))
 refine Xs [0, 1, 2, 4, 5, 3, 6, 7] [3, 7] [[], [0], [], [2], [], [4], [0, 1, 2, 3, 4, 5], [0, 1, 2, 3, 4, 5, 6]] Wm J ?_
 refine Zx 8 (none) (i := 0) J J J J J (Zf J Xf J ⟨J, J⟩) ?_
 refine Zx 9 (some 0) (i := 1) J J J J J (Zl (i := 0) J Xc J J J ⟨J, J⟩) ?_
 refine Zx 10 (none) (i := 2) J J J J J (Zd J J ⟨J, J⟩) ?_
 refine Zx 12 (none) (i := 4) J J J J J (Zf J Wv J ⟨J, J⟩) ?_
 refine Zx 13 (some 0) (i := 5) J J J J J (Zl (i := 0) J Xh J J J ⟨J, J⟩) ?_
 refine Xm 2 (i := 3) J J J J J (Yh (xs := [.tmp 10]) (i := 0) J J J (H3) by1 ⟨_, J, ?_⟩)
 refine Zx 14 (none) (i := 6) J J J J J (Yk (ns := [0, 1, 2]) (xs := [.tmp 9, .tmp 11, .tmp 13]) J tz_112 J tfl_112 J J J J ⟨J, J⟩) ?_
 refine Xm 1 (i := 7) J J J J J (Zm (cs' := [_, _, _, _, _, _, _, _, _, _, _, _, _]) (i := 0) J ts_112 J J J J J (Uc J) J ⟨_, J, ?_⟩)
 show AGo _ _ _ _ _ _ _
 refine Zb ?_
 refine Ya ?_
 exact Yj (i := 1) J J J ta_112 J (Vw _) (Vt _ (Vt _ (Vv J))) ⟨J, J⟩
set_option maxHeartbeats 4000000 in
set_option maxRecDepth 100000 in
theorem lambda_c (b : Nat) (L : List Tok) (hL : L.length ≤ 100000) (n : Nat) (E : PS → Ex × PS) (HE : ExC b L n E) : ∀ (f : Nat) (p : PS) (a : Int), POk L n p → L.length - p.at_ < f → MCall Tryz.prog 123 [.ptr b 0, .val (.int .i64 a)] (.loc b (psC L p)) (.agg (lambdaG L E f p a).1.cells) (.loc b (psC L (lambdaG L E f p a).2))
 | 0, p, a, k, h => by omega
 | f + 1, p, a, k, h => by
  have H1 := take_c b L hL _ k.1 1 kE
  have k1 := (Yn (kind := 1) (s := kE) (by decide) k).ok k
  have hp1 := take_prog (L := L) (p := p) (kind := 1) (s := kE) (by decide)
  obtain ⟨r, hr⟩ : ∃ r, lambdaG L E (f + 1) p a = r := ⟨_, rfl⟩
  rw [hr]
  rw [lambdaG] at hr
  obtain ⟨⟨⟨tk, tt, tn, ta⟩, p1⟩, e1⟩ : ∃ r, takeP L p 1 kE = r := ⟨_, rfl⟩
  rw [e1] at H1 k1 hr hp1
  simp only [Tok.av] at H1 k1 hr hp1
  have HN := next_c b L p1
  obtain ⟨⟨qk, qt, qn, qa⟩, e4⟩ : ∃ r, nxt L p1 = r := ⟨_, rfl⟩
  have hn1 := nxt_ok (L := L) (p := p1)
  rw [e4] at HN hr hn1
  simp only [Tok.av] at HN hr hn1
  have H2 := take_c b L hL p1 k1.1 7 kArrow
  have k2 := (Yn (kind := 7) (s := kArrow) (by decide) k1).ok k1
  have H3 := HE _ k2
  have IH : qk = 1 → MCall Tryz.prog 123 [.ptr b 0, .val (.int .i64 qa)] (.loc b (psC L p1)) (.agg (lambdaG L E f p1 qa).1.cells) (.loc b (psC L (lambdaG L E f p1 qa).2)) := fun q => by
   have h1 := hp1 (hn1 (by omega))
   have h2 : p1 = stepP p := by have := h1.1; simp only [Prod.mk.injEq] at this; exact this.2
   refine lambda_c b L hL n E HE f p1 qa k1 ?_
   have h3 := h1.2.2
   rw [h2]
   show L.length - (p.at_ + 1) < f
   omega
  obtain ⟨⟨⟨yk, ys, yn, ⟨ytk, yts, ytn, ytl⟩, yks, yal, ybs, yp⟩, p4⟩, e5⟩ : ∃ r, lambdaG L E f p1 qa = r := ⟨_, rfl⟩
  rw [e5] at IH hr
  obtain ⟨⟨⟨xk, xs, xn, ⟨xtk, xts, xtn, xtl⟩, xks, xal, xbs, xp⟩, p3⟩, e3⟩ : ∃ r, E (takeP L p1 7 kArrow).2 = r := ⟨_, rfl⟩
  rw [e3] at H3 hr
  simp only [Ex.cells, Ty.cells, List.cons_append, List.nil_append] at IH H3 hr
  clear hp1 hn1
  refine Zv Tryz.func123 J (by kernel_rfl) J (Uc J) ?_
  refine Yg ?_
  refine Zg (Zc ?_)
  refine Za 4 J J J (Zw (cs' := [_, _, _, _, _, _, _, _, _, _, _]) J Xz J J ?_); intro b4
  refine Vp (Zb (Zg (Zc ?_)))
  refine Za 7 J J J (Zd J J ?_)
  refine Za 8 J J J (Yh (xs := [.tmp 7, .const (.int .i64 1), .const (.string ⟨#[]⟩)]) (i := 1) J J J (H1) by1 ?_)
  refine Za 5 J J J (Zw (cs' := [_, _, _, _]) J Wh J J ?_); intro b5
  refine Zo J J (Zm (cs' := [_, _, _, _]) (i := 0) J Xl J J J J J (Uc J) J ?_)
  refine Vp (Zb (Zg (Zc ?_)))
  refine Za 9 J J J (Zf J Xf J ?_)
  refine Za 10 J J J (Zl (i := 0) J Xc J J J ?_)
  refine Za 11 J J J (Zd J J ?_)
  refine Za 12 J J J (Yk (ns := [0, 1, 7]) (xs := [.const (.int .i64 6), .tmp 10, .tmp 11]) J Xz J tfl_110 J J J J ?_)
  refine Za 6 J J J (Zw (cs' := [_, _, _, _, _, _, _, _, _, _, _]) J Xz J J ?_); intro b6
  refine Zo J J (Zm (cs' := [_, _, _, _, _, _, _, _, _, _, _]) (i := 0) J Wk J J J J J (Uc J) J ?_)
  refine Vp (Zb (Zg (Zg (Zc ?_))))
  refine Za 13 J J J (Zd J J ?_)
  refine Za 14 J J J (Wp (xs := [.tmp 13]) [3] J J J (HN) by1 ?_)
  refine Za 15 J J J (Va (ft := 3) (fo := 0) J (by kernel_rfl) Xh J J ?_)
  refine Za 16 J J J (Yv J J J ?_); intro c16 h16
  refine Vp (Zb ?_)
  rcases Zh h16 with ⟨rfl, g16⟩ | ⟨rfl, g16⟩
  ·refine Zn J (Zt (Zb (Zg (Zc ?_))))
   refine Za 28 J J J (Zd J J ?_)
   refine Za 29 J J J (Yh (xs := [.tmp 28, .const (.int .i64 7), .const (.string ⟨#[45, 62]⟩)]) (i := 3) J J J (H2) by1 ?_)
   refine Vp (Zb (Zg ?_))
   refine Xs [0, 1, 2, 3, 4, 5, 6, 7] [3, 5, 7] [[], [0], [], [2], [2, 3], [0, 1, 2, 3, 4], [0, 1, 2, 3, 4, 5], [0, 1, 2, 3, 4, 5, 6]] Wm J ?_
   refine Zx 30 (none) (i := 0) J J J J J (Zf J tf_110_4 J ⟨J, J⟩) ?_
   refine Zx 31 (some 0) (i := 1) J J J J J (Zl (i := 0) J ta_107 J J J ⟨J, J⟩) ?_
   refine Zx 32 (none) (i := 2) J J J J J (Zd J J ⟨J, J⟩) ?_
   refine Xm 3 (i := 3) J J J J J (Yh (xs := [.tmp 32]) (i := 0) J J J (H3) by1 ⟨_, J, ?_⟩)
   refine Zx 34 (none) (i := 4) J J J J J (Ye (xs := [.tmp 33]) el_107 J J J J J J (Uc J) ⟨J, J⟩) ?_
   refine EOps.nw (i := 5) J J J (op_append_nil el_107 J J J (.seq _ _) by6 (fun u35 => ⟨_, J, ?_⟩))
   refine Zx 36 (none) (i := 6) J J J J J (Zf J tf_110_4 J ⟨J, J⟩) ?_
   refine Xm 0 (i := 7) J J J J J (Zm (cs' := [_, _, _, _, _, _, _, _, _, _, _]) (i := 0) J ts_107 J J J J J (Uc J) J ⟨_, J, ?_⟩)
   show AGo _ _ _ _ _ _ _
   refine Zb (Zg (Zc ?_))
   refine Za 37 J J J (Zy (cs' := [_, _, _, _, _, _, _, _, _, _, _]) (i := 0) J Wb J J J J ?_)
   refine Zo J J (Zm (cs' := [_, _, _, _, _, _, _, _, _, _, _]) (i := 2) J Wk J J J J J (Uc J) J ?_)
   refine Vp (Zb ?_)
   refine Ya ?_
   rw [if_neg g16] at hr; subst hr; exact Yj (i := 2) rfl rfl rfl Wb rfl by0 (Vt _ (Vt _ (Vt _ (Vs _ (Vr _))))) ⟨rfl, rfl⟩
  ·refine Zq J (Zg ?_)
   refine Xs [0, 1, 2, 3, 4, 5, 6, 7, 8, 9, 10] [6, 8, 10] [[], [0], [], [], [3], [3, 4], [2, 3, 4, 5], [2, 3, 4, 5, 6], [0, 1, 2, 3, 4, 5, 6, 7], [0, 1, 2, 3, 4, 5, 6, 7, 8], [0, 1, 2, 3, 4, 5, 6, 7, 8, 9]] Wm J ?_
   refine Zx 17 (none) (i := 0) J J J J J (Zf J tf_110_4 J ⟨J, J⟩) ?_
   refine Zx 18 (some 0) (i := 1) J J J J J (Zl (i := 0) J ta_107 J J J ⟨J, J⟩) ?_
   refine Zx 19 (none) (i := 2) J J J J J (Zd J J ⟨J, J⟩) ?_
   refine Zx 20 (none) (i := 3) J J J J J (Zd J J ⟨J, J⟩) ?_
   refine Zx 21 (some 3) (i := 4) J J J J J (Wp (xs := [.tmp 20]) [0] J J J (HN) by1 ⟨J, J⟩) ?_
   refine Zx 22 (none) (i := 5) J J J J J (Va (ft := 3) (fo := 3) J (by kernel_rfl) Xh J J ⟨J, J⟩) ?_
   refine Xm 3 (i := 6) J J J J J (Yh (xs := [.tmp 19, .tmp 22]) (i := 0) J J J (IH g16) by1 ⟨_, J, ?_⟩)
   refine Zx 24 (none) (i := 7) J J J J J (Ye (xs := [.tmp 23]) el_107 J J J J J J (Uc J) ⟨J, J⟩) ?_
   refine EOps.nw (i := 8) J J J (op_append_nil el_107 J J J (.seq _ _) by6 (fun u25 => ⟨_, J, ?_⟩))
   refine Zx 26 (none) (i := 9) J J J J J (Zf J tf_110_4 J ⟨J, J⟩) ?_
   refine Xm 0 (i := 10) J J J J J (Zm (cs' := [_, _, _, _, _, _, _, _, _, _, _]) (i := 0) J ts_107 J J J J J (Uc J) J ⟨_, J, ?_⟩)
   show AGo _ _ _ _ _ _ _
   refine Zb (Zg (Zc ?_))
   refine Za 27 J J J (Zy (cs' := [_, _, _, _, _, _, _, _, _, _, _]) (i := 0) J Wb J J J J ?_)
   refine Zo J J (Zm (cs' := [_, _, _, _, _, _, _, _, _, _, _]) (i := 2) J Wk J J J J J (Uc J) J ?_)
   refine Vp (Zb ?_)
   refine Ya ?_
   rw [if_pos g16] at hr; subst hr; exact Yj (i := 2) rfl rfl rfl Wb rfl by0 (Vt _ (Vt _ (Vt _ (Vs _ (Vr _))))) ⟨rfl, rfl⟩
set_option maxHeartbeats 4000000 in
set_option maxRecDepth 100000 in
theorem atom_lit (b : Nat) (L : List Tok) (hL : L.length ≤ 100000) (n : Nat) (E : PS → Ex × PS) (p : PS) (k : POk L n p) (h : (nxt L p).k = 1 ∨ (nxt L p).k = 2 ∨ (nxt L p).k = 3 ∨ (nxt L p).k = 4) : MCall Tryz.prog 124 [.ptr b 0] (.loc b (psC L p)) (.agg (atomG L E p).1.cells) (.loc b (psC L (atomG L E p).2)) := by
 have HN := next_c b L p
 have hp := k.1
 have hlt : p.at_ < L.length := (Vo (by omega)).2
 obtain ⟨r, hr⟩ : ∃ r, atomG L E p = r := ⟨_, rfl⟩
 rw [hr]
 unfold atomG at hr
 obtain ⟨⟨tk, tt, tn, ta⟩, ht⟩ : ∃ t, nxt L p = t := ⟨_, rfl⟩
 rw [ht] at HN hr h
 simp only [Tok.av] at HN hr h
 refine Zv Tryz.func124 J (by kernel_rfl) J (Uc J) ?_
 refine Yg ?_
 refine Zg (Zc ?_)
 refine Za 2 J J J (Zw (cs' := [_, _, _, _, _, _, _, _, _, _, _]) J Xz J J ?_); intro b2
 refine Vp (Zb (Zg (Zc ?_)))
 refine Za 9 J J J (Zd J J ?_)
 refine Za 10 J J J (Wp (xs := [.tmp 9]) [1] J J J (HN) by1 ?_)
 refine Za 3 J J J (Zw (cs' := [_, _, _, _]) J Wh J J ?_); intro b3
 refine Zo J J (Zm (cs' := [_, _, _, _]) (i := 0) J Xl J J J J J (Uc J) J ?_)
 refine Vp (Zb (Zg (Zc ?_)))
 refine Za 11 J J J (Zf J Wv J ?_)
 refine Za 12 J J J (Zl (i := 0) J Xh J J J ?_)
 refine Za 13 J J J (Yk (ns := [7]) (xs := [.tmp 12]) J Xz J tfl_110 J J J J ?_)
 refine Za 4 J J J (Zw (cs' := [_, _, _, _, _, _, _, _, _, _, _]) J Xz J J ?_); intro b4
 refine Zo J J (Zm (cs' := [_, _, _, _, _, _, _, _, _, _, _]) (i := 0) J Wk J J J J J (Uc J) J ?_)
 refine Vp (Zb (Zg ?_))
 apply c_joink [1, 9, 10, 11, 12, 13, 14, 15, 16, 17, 18, 19, 20, 21, 22, 23, 24, 25, 26, 27, 28, 29, 30, 31, 32, 33, 34, 35, 36, 37, 38, 39, 40, 41, 42, 43, 44, 45, 68, 81, 94, 97, 128] (σ := Int × ByteArray × Int) (fun zz => match zz with | (kk, ss, nn) => []) (fun zz => match zz with | (kk, ss, nn) => [.loc b4 [.val (.int .i64 kk), .val (.string ss), .val (.int .i64 nn), .val (.int .i64 0), .val (.string kE), .val (.int .i64 0), .val (.slice none 0 0), .val (.slice none 0 0), .val (.slice none 0 0), .val (.slice none 0 0), .val (.int .i64 ta)], .loc b3 (Tok.mk tk tt tn ta).av, .loc b2 zEx, .loc b (psC L p)]) (fun zz => match zz with | (kk, ss, nn) => 0 < kk ∧ (Ex.mk kk ss nn ty0 [] [] [] ta, stepP p) = r)
 ·repeat' (first | exact Uf | apply Ud rfl | apply Ue rfl)
 ·skip
  refine Zz ?_
  refine Zg (Zc ?_)
  refine Za 15 J J J (Zf J Xd J ?_)
  refine Za 16 J J J (Zl (i := 1) J Xh J J J ?_)
  refine Za 17 J J J (Yv J J J ?_); intro c17 h17
  refine Za 14 J J J (Ze J J ?_)
  refine Vp (Zb ?_)
  rcases Zh h17 with ⟨rfl, g17⟩ | ⟨rfl, g17⟩
  ·refine Zn J (Zg (Zc ?_))
   refine Za 23 J J J (Zf J Xd J ?_)
   refine Za 24 J J J (Zl (i := 1) J Xh J J J ?_)
   refine Za 25 J J J (Yv J J J ?_); intro c25 h25
   refine Za 22 J J J (Ze J J ?_)
   refine Vp (Zb ?_)
   rcases Zh h25 with ⟨rfl, g25⟩ | ⟨rfl, g25⟩
   ·refine Zn J (Zg (Zc ?_))
    refine Za 31 J J J (Zf J Xd J ?_)
    refine Za 32 J J J (Zl (i := 1) J Xh J J J ?_)
    refine Za 33 J J J (Yv J J J ?_); intro c33 h33
    refine Za 30 J J J (Ze J J ?_)
    refine Vp (Zb ?_)
    rcases Zh h33 with ⟨rfl, g33⟩ | ⟨rfl, g33⟩
    ·refine Zn J (Zg (Zc ?_))
     refine Za 39 J J J (Zf J Xd J ?_)
     refine Za 40 J J J (Zl (i := 1) J Xh J J J ?_)
     refine Za 41 J J J (Yv J J J ?_); intro c41 h41
     refine Za 38 J J J (Ze J J ?_)
     refine Vp (Zb ?_)
     rcases Zh h41 with ⟨rfl, g41⟩ | ⟨rfl, g41⟩
     ·omega
     ·refine Zq J (Zg (Zc ?_))
      refine Za 42 J J J (Zf J tf_110_0 J ?_)
      refine Zo J J (Zm (cs' := [_, _, _, _, _, _, _, _, _, _, _]) (i := 0) J Wi J J J J J (Uc J) J ?_)
      refine Vp (Zb (Zc ?_))
      refine Za 43 J J J (Zf J Xf J ?_)
      refine Za 44 J J J (Zl (i := 1) J Xc J J J ?_)
      refine Za 45 J J J (Zf J tf_110_1 J ?_)
      refine Zo J J (Zm (cs' := [_, _, _, _, _, _, _, _, _, _, _]) (i := 0) J ts_9 J J J J J (Uc J) J ?_)
      refine Vp ?_
      refine Yr ?_
      refine Yx ?_
      first
      | (rw [if_pos g17] at hr; exact ⟨(3, tt, 0), ⟨by decide, hr⟩, by4, Vv rfl⟩)
      | (rw [if_neg g17, if_pos g25] at hr; exact ⟨(4, tt, 0), ⟨by decide, hr⟩, by4, Vv rfl⟩)
      | (rw [if_neg g17, if_neg g25, if_pos g33] at hr; exact ⟨(1, kE, tn), ⟨by decide, hr⟩, by4, Vv rfl⟩)
      | (rw [if_neg g17, if_neg g25, if_neg g33, if_pos g41] at hr; exact ⟨(2, tt, 0), ⟨by decide, hr⟩, by4, Vv rfl⟩)
    ·refine Zq J (Zg (Zc ?_))
     refine Za 34 J J J (Zf J tf_110_0 J ?_)
     refine Zo J J (Zm (cs' := [_, _, _, _, _, _, _, _, _, _, _]) (i := 0) J Wi J J J J J (Uc J) J ?_)
     refine Vp (Zb (Zc ?_))
     refine Za 35 J J J (Zf J tf_97_2 J ?_)
     refine Za 36 J J J (Zl (i := 1) J ta_2 J J J ?_)
     refine Za 37 J J J (Zf J tf_110_2 J ?_)
     refine Zo J J (Zm (cs' := [_, _, _, _, _, _, _, _, _, _, _]) (i := 0) J ts_2 J J J J J (Uc J) J ?_)
     refine Vp ?_
     refine Yr ?_
     refine Yx ?_
     first
     | (rw [if_pos g17] at hr; exact ⟨(3, tt, 0), ⟨by decide, hr⟩, by4, Vv rfl⟩)
     | (rw [if_neg g17, if_pos g25] at hr; exact ⟨(4, tt, 0), ⟨by decide, hr⟩, by4, Vv rfl⟩)
     | (rw [if_neg g17, if_neg g25, if_pos g33] at hr; exact ⟨(1, kE, tn), ⟨by decide, hr⟩, by4, Vv rfl⟩)
     | (rw [if_neg g17, if_neg g25, if_neg g33, if_pos g41] at hr; exact ⟨(2, tt, 0), ⟨by decide, hr⟩, by4, Vv rfl⟩)
   ·refine Zq J (Zg (Zc ?_))
    refine Za 26 J J J (Zf J tf_110_0 J ?_)
    refine Zo J J (Zm (cs' := [_, _, _, _, _, _, _, _, _, _, _]) (i := 0) J Wi J J J J J (Uc J) J ?_)
    refine Vp (Zb (Zc ?_))
    refine Za 27 J J J (Zf J Xf J ?_)
    refine Za 28 J J J (Zl (i := 1) J Xc J J J ?_)
    refine Za 29 J J J (Zf J tf_110_1 J ?_)
    refine Zo J J (Zm (cs' := [_, _, _, _, _, _, _, _, _, _, _]) (i := 0) J ts_9 J J J J J (Uc J) J ?_)
    refine Vp ?_
    refine Yr ?_
    refine Yx ?_
    first
    | (rw [if_pos g17] at hr; exact ⟨(3, tt, 0), ⟨by decide, hr⟩, by4, Vv rfl⟩)
    | (rw [if_neg g17, if_pos g25] at hr; exact ⟨(4, tt, 0), ⟨by decide, hr⟩, by4, Vv rfl⟩)
    | (rw [if_neg g17, if_neg g25, if_pos g33] at hr; exact ⟨(1, kE, tn), ⟨by decide, hr⟩, by4, Vv rfl⟩)
    | (rw [if_neg g17, if_neg g25, if_neg g33, if_pos g41] at hr; exact ⟨(2, tt, 0), ⟨by decide, hr⟩, by4, Vv rfl⟩)
  ·refine Zq J (Zg (Zc ?_))
   refine Za 18 J J J (Zf J tf_110_0 J ?_)
   refine Zo J J (Zm (cs' := [_, _, _, _, _, _, _, _, _, _, _]) (i := 0) J Wi J J J J J (Uc J) J ?_)
   refine Vp (Zb (Zc ?_))
   refine Za 19 J J J (Zf J Xf J ?_)
   refine Za 20 J J J (Zl (i := 1) J Xc J J J ?_)
   refine Za 21 J J J (Zf J tf_110_1 J ?_)
   refine Zo J J (Zm (cs' := [_, _, _, _, _, _, _, _, _, _, _]) (i := 0) J ts_9 J J J J J (Uc J) J ?_)
   refine Vp ?_
   refine Yr ?_
   refine Yx ?_
   first
   | (rw [if_pos g17] at hr; exact ⟨(3, tt, 0), ⟨by decide, hr⟩, by4, Vv rfl⟩)
   | (rw [if_neg g17, if_pos g25] at hr; exact ⟨(4, tt, 0), ⟨by decide, hr⟩, by4, Vv rfl⟩)
   | (rw [if_neg g17, if_neg g25, if_pos g33] at hr; exact ⟨(1, kE, tn), ⟨by decide, hr⟩, by4, Vv rfl⟩)
   | (rw [if_neg g17, if_neg g25, if_neg g33, if_pos g41] at hr; exact ⟨(2, tt, 0), ⟨by decide, hr⟩, by4, Vv rfl⟩)
 rintro ⟨kk, ss, nn⟩ hI
 try dsimp only [List.cons_append, List.nil_append] at hI ⊢
 refine Zb (Zg (Zg (Zc ?_)))
 refine Za 46 J J J (Zf J tf_110_0 J ?_)
 refine Za 47 J J J (Zl (i := 0) J Xh J J J ?_)
 refine Za 48 J J J (Vc J J J ?_); intro c48 h48
 refine Vp (Zb ?_)
 rcases Zh h48 with ⟨rfl, g48⟩ | ⟨rfl, g48⟩
 ·omega
 ·refine Zq J (Zg (Zc ?_))
  refine Za 49 J J J (Zd J J ?_)
  refine Za 50 J J J (Yl J J ?_)
  refine Za 51 J J J (Zf J tf_95_1 J ?_)
  refine Za 52 J J J (Zl (i := 3) J Xh J J J ?_)
  refine Za 53 J J J (Ys J J J (Ug _ (by omega)) ?_)
  refine Za 54 J J J (Yl J J ?_)
  refine Za 55 J J J (Zf J tf_95_1 J ?_)
  refine Zo J J (Zm (i := 3) J Wi J J J J J (Uc J) J ?_)
  refine Vp (Zb (Zg (Zc ?_)))
  refine Za 56 J J J (Zy (cs' := [_, _, _, _, _, _, _, _, _, _, _]) (i := 0) J Wb J J J J ?_)
  refine Zo J J (Zm (cs' := [_, _, _, _, _, _, _, _, _, _, _]) (i := 2) J Wk J J J J J (Uc J) J ?_)
  refine Vp (Zb ?_)
  refine Ya ?_
  have h2 := hI.2; subst h2; exact Yj (i := 2) rfl rfl rfl Wb rfl by0 (Vt _ (Vt _ (Vt _ (Vv rfl)))) ⟨rfl, rfl⟩
theorem may_yes {b : Nat} {L : List Tok} (hL : L.length ≤ 100000) {p : PS} {s : ByteArray} (h : isP L p s = true) : MCall Tryz.prog 51 [.ptr b 0, .val (.string s)] (.loc b (psC L p)) (.val (.bool true)) (.loc b (psC L (stepP p))) :=
 (may_c b L hL p s).mono (by
  rintro v M' (⟨_, rfl, rfl⟩ | ⟨q, _, _⟩)
  ·exact ⟨J, J⟩
  ·exact absurd h q)
theorem may_no {b : Nat} {L : List Tok} (hL : L.length ≤ 100000) {p : PS} {s : ByteArray} (h : ¬ isP L p s = true) : MCall Tryz.prog 51 [.ptr b 0, .val (.string s)] (.loc b (psC L p)) (.val (.bool false)) (.loc b (psC L p)) :=
 (may_c b L hL p s).mono (by
  rintro v M' (⟨q, _, _⟩ | ⟨_, rfl, rfl⟩)
  ·exact absurd q h
  ·exact ⟨J, J⟩)
theorem altsL_err {L : List Tok} {E : PS → Ex × PS} {f : Nat} {p : PS} {acc : List Al} (h : p.e ≠ 0) : altsL L E f p acc = (acc, p) := by
 cases f with
 | zero => rfl
 | succ f => rw [altsL, if_pos h]
theorem Al.cellss_app' (a b : List Al) : Al.cellss (a ++ b) = Al.cellss a ++ Al.cellss b := by simp [Al.cellss_map]
theorem Ex.cellss_app' (a b : List Ex) : Ex.cellss (a ++ b) = Ex.cellss a ++ Ex.cellss b := by simp [Ex.cellss_map]
theorem Bi.cellss_app' (a b : List Bi) : Bi.cellss (a ++ b) = Bi.cellss a ++ Bi.cellss b := by simp [Bi.cellss_map]
set_option maxHeartbeats 4000000 in
set_option maxRecDepth 100000 in
theorem atom_case (b : Nat) (L : List Tok) (hL : L.length ≤ 100000) (n : Nat) (E : PS → Ex × PS) (HE : ExC b L n E) (HA : ∀ q, POk L n q → Adv L q (E q).2) (p : PS) (k : POk L n p) (h1 : (nxt L p).k ≠ 1) (h2 : (nxt L p).k ≠ 2) (h3 : (nxt L p).k ≠ 3) (h4 : (nxt L p).k ≠ 4) (hc : isP L p kCase = true) : MCall Tryz.prog 124 [.ptr b 0] (.loc b (psC L p)) (.agg (caseG L E (nxt L p).a (stepP p)).1.cells) (.loc b (psC L (caseG L E (nxt L p).a (stepP p)).2)) := by
 have HN := next_c b L p
 have k1 := (Xn k hc).ok k
 have H1 := HE _ k1
 have k2 := (HA _ k1).ok k1
 have H2 := take_c b L hL _ k2.1 6 kOf
 have k3 := (Yn (kind := 6) (s := kOf) (by decide) k2).ok k2
 have k4 := (altsL_adv HA (L.length + 1) _ [] k3).ok k3
 have H4 := take_c b L hL _ k4.1 6 kEnd
 obtain ⟨r, hr⟩ : ∃ r, caseG L E (nxt L p).a (stepP p) = r := ⟨_, rfl⟩
 rw [hr]
 unfold caseG at hr
 simp only [] at hr
 obtain ⟨⟨tk, tt, tn, ta⟩, ht⟩ : ∃ t, nxt L p = t := ⟨_, rfl⟩
 rw [ht] at HN hr h1 h2 h3 h4
 simp only [Tok.av] at HN hr h1 h2 h3 h4
 obtain ⟨⟨⟨xk, xs, xn, ⟨xtk, xts, xtn, xtl⟩, xks, xal, xbs, xp⟩, p2⟩, e2⟩ : ∃ r, E (stepP p) = r := ⟨_, rfl⟩
 rw [e2] at H1 H2 H4 hr k3
 obtain ⟨⟨u3, p3⟩, e3⟩ : ∃ r, takeP L p2 6 kOf = r := ⟨_, rfl⟩
 simp only [] at H2 H4 hr k3
 rw [e3] at H2 H4 hr k3
 simp only [] at H2 H4 hr k3
 obtain ⟨⟨yl, p4⟩, e4⟩ : ∃ r, altsL L E (L.length + 1) p3 [] = r := ⟨_, rfl⟩
 rw [e4] at H4 hr
 simp only [Ex.cells, Ty.cells, List.cons_append, List.nil_append] at H1 H4 hr
 refine Zv Tryz.func124 J (by kernel_rfl) J (Uc J) ?_
 refine Yg ?_
 refine Zg (Zc ?_)
 refine Za 2 J J J (Zw (cs' := [_, _, _, _, _, _, _, _, _, _, _]) J Xz J J ?_); intro b2
 refine Vp (Zb (Zg (Zc ?_)))
 refine Za 9 J J J (Zd J J ?_)
 refine Za 10 J J J (Wp (xs := [.tmp 9]) [1] J J J (HN) by1 ?_)
 refine Za 3 J J J (Zw (cs' := [_, _, _, _]) J Wh J J ?_); intro b3
 refine Zo J J (Zm (cs' := [_, _, _, _]) (i := 0) J Xl J J J J J (Uc J) J ?_)
 refine Vp (Zb (Zg (Zc ?_)))
 refine Za 11 J J J (Zf J Wv J ?_)
 refine Za 12 J J J (Zl (i := 0) J Xh J J J ?_)
 refine Za 13 J J J (Yk (ns := [7]) (xs := [.tmp 12]) J Xz J tfl_110 J J J J ?_)
 refine Za 4 J J J (Zw (cs' := [_, _, _, _, _, _, _, _, _, _, _]) J Xz J J ?_); intro b4
 refine Zo J J (Zm (cs' := [_, _, _, _, _, _, _, _, _, _, _]) (i := 0) J Wk J J J J J (Uc J) J ?_)
 refine Vp (Zb (Zg (Zz (Zg (Zc ?_)))))
 refine Za 15 J J J (Zf J Xd J ?_)
 refine Za 16 J J J (Zl (i := 1) J Xh J J J ?_)
 refine Za 17 J J J (Yv J J J ?_); intro c17 h17
 refine Za 14 J J J (Ze J J ?_)
 refine Vp (Zb ?_)
 rcases Zh h17 with ⟨rfl, g17⟩ | ⟨rfl, g17⟩
 ·refine Zn J (Zg (Zc ?_))
  refine Za 23 J J J (Zf J Xd J ?_)
  refine Za 24 J J J (Zl (i := 1) J Xh J J J ?_)
  refine Za 25 J J J (Yv J J J ?_); intro c25 h25
  refine Za 22 J J J (Ze J J ?_)
  refine Vp (Zb ?_)
  rcases Zh h25 with ⟨rfl, g25⟩ | ⟨rfl, g25⟩
  ·refine Zn J (Zg (Zc ?_))
   refine Za 31 J J J (Zf J Xd J ?_)
   refine Za 32 J J J (Zl (i := 1) J Xh J J J ?_)
   refine Za 33 J J J (Yv J J J ?_); intro c33 h33
   refine Za 30 J J J (Ze J J ?_)
   refine Vp (Zb ?_)
   rcases Zh h33 with ⟨rfl, g33⟩ | ⟨rfl, g33⟩
   ·refine Zn J (Zg (Zc ?_))
    refine Za 39 J J J (Zf J Xd J ?_)
    refine Za 40 J J J (Zl (i := 1) J Xh J J J ?_)
    refine Za 41 J J J (Yv J J J ?_); intro c41 h41
    refine Za 38 J J J (Ze J J ?_)
    refine Vp (Zb ?_)
    rcases Zh h41 with ⟨rfl, g41⟩ | ⟨rfl, g41⟩
    ·refine Zn J (Zt ?_)
     refine Yr ?_
     refine Zb (Zg (Zg (Zc ?_)))
     refine Za 46 J J J (Zf J tf_110_0 J ?_)
     refine Za 47 J J J (Zl (i := 0) J Xh J J J ?_)
     refine Za 48 J J J (Vc J J J ?_); intro c48 h48
     refine Vp (Zb ?_)
     rcases Zh h48 with ⟨rfl, g48⟩ | ⟨rfl, g48⟩
     ·refine Zn J (Zt (Zb (Zg (Zg (Zc ?_)))))
      refine Za 57 J J J (Zd J J ?_)
      refine Za 58 J J J (Yh (xs := [.tmp 57, .const (.string ⟨#[99, 97, 115, 101]⟩)]) (i := 3) J J J (may_yes hL hc) by1 ?_)
      refine Vp (Zb ?_)
      refine Zq J ?_
      refine Zg (Zc ?_)
      refine Za 59 J J J (Zf J tf_110_0 J ?_)
      refine Zo J J (Zm (cs' := [_, _, _, _, _, _, _, _, _, _, _]) (i := 0) J Wi J J J J J (Uc J) J ?_)
      refine Vp (Zb (Zg ?_))
      refine Xs [0, 1, 2, 3, 4, 5, 6, 7] [3, 5, 7] [[], [0], [], [2], [2, 3], [0, 1, 2, 3, 4], [0, 1, 2, 3, 4, 5], [0, 1, 2, 3, 4, 5, 6]] Wm J ?_
      refine Zx 60 (none) (i := 0) J J J J J (Zf J tf_110_4 J ⟨J, J⟩) ?_
      refine Zx 61 (some 0) (i := 1) J J J J J (Zl (i := 0) J ta_107 J J J ⟨J, J⟩) ?_
      refine Zx 62 (none) (i := 2) J J J J J (Zd J J ⟨J, J⟩) ?_
      refine Xm 3 (i := 3) J J J J J (Yh (xs := [.tmp 62]) (i := 0) J J J (H1) by1 ⟨_, J, ?_⟩)
      refine Zx 64 (none) (i := 4) J J J J J (Ye (xs := [.tmp 63]) el_107 J J J J J J (Uc J) ⟨J, J⟩) ?_
      refine EOps.nw (i := 5) J J J (op_append_nil el_107 J J J (.seq _ _) by6 (fun u65 => ⟨_, J, ?_⟩))
      refine Zx 66 (none) (i := 6) J J J J J (Zf J tf_110_4 J ⟨J, J⟩) ?_
      refine Xm 0 (i := 7) J J J J J (Zm (cs' := [_, _, _, _, _, _, _, _, _, _, _]) (i := 0) J ts_107 J J J J J (Uc J) J ⟨_, J, ?_⟩)
      show AGo _ _ _ _ _ _ _
      refine Zb (Zg (Zc ?_))
      refine Za 67 J J J (Zd J J ?_)
      refine Za 68 J J J (Yh (xs := [.tmp 67, .const (.int .i64 6), .const (.string ⟨#[111, 102]⟩)]) (i := 3) J J J (H2) by1 ?_)
      refine Vp (Zb (Zg (Zc ?_)))
      refine Za 5 J J J (Ze J J ?_)
      refine Vp (Zb (Zg (Zz ?_)))
      refine Xy 187 16 ?_
      apply Wc [1, 5, 6, 9, 10, 11, 12, 13, 14, 15, 16, 17, 18, 19, 20, 21, 22, 23, 24, 25, 26, 27, 28, 29, 30, 31, 32, 33, 34, 35, 36, 37, 38, 39, 40, 41, 42, 43, 44, 45, 46, 47, 48, 49, 50, 51, 52, 53, 54, 55, 56, 57, 58, 59, 60, 61, 62, 63, 64, 65, 66, 67, 68, 69, 70, 71, 72, 73, 74, 75, 76, 77, 78, 79, 80, 81, 82, 83, 84, 85, 86, 87, 88, 89, 90, 91, 92, 94, 97, 128] (σ := PS × Nat × List Al × Value × Bool) (fun zz => match zz with | (q, f, acc, u, mo) => [(5, .val (.bool mo))]) (fun zz => match zz with | (q, f, acc, u, mo) => [.loc b4 [.val (.int .i64 8), .val (.string kE), .val (.int .i64 0), .val (.int .i64 0), .val (.string kE), .val (.int .i64 0), .val (.slice none 0 0), .seq 11 (Ex.cellss [Ex.mk xk xs xn (Ty.mk xtk xts xtn xtl) xks xal xbs xp]), .own u 16 (Al.cellss acc), .val (.slice none 0 0), .val (.int .i64 ta)], .loc b3 (Tok.mk tk tt tn ta).av, .loc b2 zEx, .loc b (psC L q), .own 187 16 u]) (fun zz => match zz with | (q, f, acc, u, mo) => POk L n q ∧ L.length - q.at_ < f ∧ (mo = true → acc.length ≤ q.at_) ∧ (if mo = true then altsL L E f q acc else (acc, q)) = (yl, p4)) (fun zz => match zz with | (q, f, acc, u, mo) => 2 * f + (if mo = true then 1 else 0)) ((p3, L.length + 1, [], .slice none 0 0, true))
      ·repeat' (first | exact Uf | apply Ud rfl | apply Ue rfl)
      ·exact ⟨k3, by omega, fun _ => Nat.zero_le _, e4⟩
      ·exact by4
      ·exact (Vu _ (Vy (Vw _) (Vy (Vw _) (Vy (Vw _) (Vy (Vw _) (Vy (Vw _) (Vy (Vw _) (Vy (Vw _) (Vy (Le.own_seq J) (Vy (Le.nilOwn 16) (Vx _)))))))))) (Vs _ (Vs _ (Vs _ (Vt _ (Vq _))))))
      rintro ⟨q, f, acc, u, mo⟩ hI
      try dsimp only [List.cons_append, List.nil_append] at hI ⊢
      obtain ⟨i1, i2, i3, hu⟩ := hI
      have hq1 := i1.1
      refine Zg (Zg ?_)
      refine Xk 76 (mo = true ∧ q.e = 0) ?_ _ _ J ?_
      ·skip
       refine Za 69 J J J (Zd J J ?_)
       refine Za 70 J J J (Zd J J ?_)
       have h70 : (mo = true ↔ mo = true) := Iff.rfl
       rcases Zh h70 with ⟨rfl, g70⟩ | ⟨rfl, g70⟩
       ·skip
        refine Zi 71 J J J J J ?_
        refine Zi 72 J J J J J ?_
        refine Zi 73 J J J J J ?_
        refine Zi 74 J J J J J ?_
        refine Zi 75 J J J J J ?_
        refine Za 76 J J J (Zp J J J ?_)
        refine Vp ?_
        refine Ua J ?_ by5 by3
        simp_all; done
       ·skip
        refine Zk 71 J J J J J (Zd J J ?_)
        refine Zk 72 J J J J J (Yl J J ?_)
        refine Zk 73 J J J J J (Zf J Vl J ?_)
        refine Zk 74 J J J J J (Zl (i := 3) J Xh J J J ?_)
        refine Zk 75 J J J J J (Yv J J J ?_); intro c75 h75
        refine Za 76 J J J (Zp J J J ?_)
        refine Vp ?_
        refine Ua J ?_ by5 by3
        simp_all; done
      intro c76 h76
      refine Zb ?_
      rcases Zh h76 with ⟨rfl, g76⟩ | ⟨rfl, g76⟩
      ·refine Zn J (Xb (Yz (Xt (Xa (Zb (Zg ?_))))))
       have hu2 : (acc, q) = (yl, p4) := by
        cases mo with
        | false => exact hu
        | true => rw [if_pos rfl, altsL_err (fun e => g76 ⟨rfl, e⟩)] at hu; exact hu
       simp only [Prod.mk.injEq] at hu2
       obtain ⟨rfl, rfl⟩ := hu2
       refine Zc ?_
       refine Za 93 J J J (Zd J J ?_)
       refine Za 94 J J J (Yh (xs := [.tmp 93, .const (.int .i64 6), .const (.string ⟨#[101, 110, 100]⟩)]) (i := 3) J J J (H4) by1 ?_)
       refine Vp (Zb (Zg (Zc ?_)))
       refine Za 95 J J J (Zy (cs' := [_, _, _, _, _, _, _, _, _, _, _]) (i := 0) J Wb J J J J ?_)
       refine Zo J J (Zm (cs' := [_, _, _, _, _, _, _, _, _, _, _]) (i := 2) J Wk J J J J J (Uc J) J ?_)
       refine Vp (Zb ?_)
       refine Ya ?_
       subst hr; exact Yj (i := 2) rfl rfl rfl Wb rfl by0 (Vt _ (Vt _ (Vt _ (Vs _ (Vr _))))) ⟨rfl, rfl⟩
      ·refine Zq J (Zt (Zb (Zz (Zg ?_))))
       obtain ⟨rfl, hq0⟩ := g76
       have i3 := i3 rfl
       have hle : (Al.cellss acc).length ≤ 200000 := by rw [Al.cellss_len]; omega
       rw [if_pos rfl] at hu
       obtain ⟨f, rfl⟩ : ∃ f', f = f' + 1 := ⟨f - 1, by omega⟩
       rw [altsL, if_neg (by rw [hq0]; simp)] at hu
       have HP := patP_c b L hL n q i1
       have l1 := (patP_adv i1).ok i1
       have b1 := (patP_adv i1).1
       have HQ := take_c b L hL _ l1.1 7 kArrow
       have l2 := (Yn (kind := 7) (s := kArrow) (by decide) l1).ok l1
       have b2 := (Yn (kind := 7) (s := kArrow) (by decide) l1).1
       have HR := HE _ l2
       have l3 := (HA _ l2).ok l2
       have b3 := (HA _ l2).1
       obtain ⟨z, hz⟩ : ∃ z, altG L E q = z := ⟨_, rfl⟩
       rw [hz] at hu
       unfold altG at hz
       obtain ⟨⟨⟨vk, vs, vn, vl, vp⟩, q1⟩, f1⟩ : ∃ r, patP L q = r := ⟨_, rfl⟩
       rw [f1] at HP HQ HR hz l2 l3 b1 b2 b3
       obtain ⟨⟨u5, q2⟩, f2⟩ : ∃ r, takeP L q1 7 kArrow = r := ⟨_, rfl⟩
       simp only [] at HQ HR hz l2 l3 b1 b2 b3
       rw [f2] at HQ HR hz l2 l3 b2 b3
       simp only [] at HQ HR hz l2 l3 b1 b2 b3
       obtain ⟨⟨⟨wk, ws, wn, ⟨wtk, wts, wtn, wtl⟩, wks, wal, wbs, wp⟩, q3⟩, f3⟩ : ∃ r, E q2 = r := ⟨_, rfl⟩
       rw [f3] at HR hz l3 b3
       simp only [Pa.cells, Ex.cells, Ty.cells, List.cons_append, List.nil_append] at HP HR hz l3 b3
       subst hz
       simp only [] at hu
       have l3a := l3.1
       refine Zc ?_
       refine Za 77 J J J (Zd J J ?_)
       refine Za 78 J J J (Yh (xs := [.tmp 77]) (i := 3) J J J (HP) by1 ?_)
       refine Za 79 J J J (Yk (ns := [0]) (xs := [.tmp 78]) J tz_187 J tfl_187 J J J J ?_)
       refine Za 6 J J J (Zw (cs' := [_, _, _, _, _, _, _, _, _, _, _, _, _, _, _, _]) J tz_187 J J ?_); intro b6
       refine Zo J J (Zm (cs' := [_, _, _, _, _, _, _, _, _, _, _, _, _, _, _, _]) (i := 0) J ts_187 J J J J J (Uc J) J ?_)
       refine Vp (Zb (Zg (Zc ?_)))
       refine Za 80 J J J (Zd J J ?_)
       refine Za 81 J J J (Yh (xs := [.tmp 80, .const (.int .i64 7), .const (.string ⟨#[45, 62]⟩)]) (i := 4) J J J (HQ) by1 ?_)
       refine Vp (Zb (Zg (Zc ?_)))
       refine Za 82 J J J (Zd J J ?_)
       refine Za 83 J J J (Yh (xs := [.tmp 82]) (i := 4) J J J (HR) by1 ?_)
       refine Za 84 J J J (Zf J tf_187_1 J ?_)
       refine Zo J J (Zm (cs' := [_, _, _, _, _, _, _, _, _, _, _, _, _, _, _, _]) (i := 0) J Wk J J J J J (Uc J) J ?_)
       refine Vp (Zb (Zg (Zc ?_)))
       refine Za 85 J J J (Zf J tf_110_5 J ?_)
       refine Za 86 J J J (Zl (i := 1) J ta_108 J J J ?_)
       refine Za 87 J J J (Zy (cs' := [_, _, _, _, _, _, _, _, _, _, _, _, _, _, _, _]) (i := 0) J ta_187 J J J J ?_)
       refine Za 88 J J J (Ye (xs := [.tmp 87]) el_108 J J J J J J (Uc J) ?_)
       refine Za 89 J J J (Xi (i := 5) el_108 J J J J (.seq _ _) by6 ?_)
       intro u89
       refine Za 90 J J J (Zf J tf_110_5 J ?_)
       refine Zo J J (Zm (cs' := [_, _, _, _, _, _, _, _, _, _, _]) (i := 1) J ts_108 J J J J J (Uc J) J ?_)
       refine Vp (Zb (Zc ?_))
       refine Za 91 J J J (Zd J J ?_)
       refine Za 92 J J J (op_mayc (xs := [.tmp 91, .const (.string ⟨#[124]⟩)]) (i := 4) J J J (may_c b L hL q3 kBar) by1 ?_ ?_)
       ·intro g92
        refine Za 5 J J J (Ze J J ?_)
        refine Vp ?_
        refine Yr ?_
        refine Yx ?_
        first
        | (rw [if_pos g92] at hu; have l4 := (Xn l3 g92).ok l3; have l5 := (is_lt g92).2; exact ⟨(stepP q3, f, acc ++ [Al.mk (Pa.mk vk vs vn vl vp) (Ex.mk wk ws wn (Ty.mk wtk wts wtn wtl) wks wal wbs wp)], u89, true), ⟨l4, (by show L.length - (q3.at_ + 1) < f; omega), (fun _ => by show (acc ++ _).length ≤ q3.at_ + 1; rw [List.length_append]; simp; omega), hu⟩, (by show 2 * f + 1 < 2 * (f + 1) + 1; omega), Vz rfl (Vw _) by4, (Vt _ (Vu _ (Vy (Vw _) (Vy (Vw _) (Vy (Vw _) (Vy (Vw _) (Vy (Vw _) (Vy (Vw _) (Vy (Vw _) (Vy (Vw _) (Vy (Ub (by rw [Al.cellss_app']; rfl)) (Vx _)))))))))) (Vs _ (Vs _ (Vv rfl)))))⟩)
        | (rw [if_neg g92] at hu; exact ⟨(q3, f + 1, acc ++ [Al.mk (Pa.mk vk vs vn vl vp) (Ex.mk wk ws wn (Ty.mk wtk wts wtn wtl) wks wal wbs wp)], u89, false), ⟨l3, (by show L.length - q3.at_ < f + 1; omega), (fun h => by cases h), hu⟩, (by show 2 * (f + 1) + 0 < 2 * (f + 1) + 1; omega), Vz rfl (Vw _) by4, (Vt _ (Vu _ (Vy (Vw _) (Vy (Vw _) (Vy (Vw _) (Vy (Vw _) (Vy (Vw _) (Vy (Vw _) (Vy (Vw _) (Vy (Vw _) (Vy (Ub (by rw [Al.cellss_app']; rfl)) (Vx _)))))))))) (Vs _ (Vs _ (Vv rfl)))))⟩)
       ·intro g92
        refine Za 5 J J J (Ze J J ?_)
        refine Vp ?_
        refine Yr ?_
        refine Yx ?_
        first
        | (rw [if_pos g92] at hu; have l4 := (Xn l3 g92).ok l3; have l5 := (is_lt g92).2; exact ⟨(stepP q3, f, acc ++ [Al.mk (Pa.mk vk vs vn vl vp) (Ex.mk wk ws wn (Ty.mk wtk wts wtn wtl) wks wal wbs wp)], u89, true), ⟨l4, (by show L.length - (q3.at_ + 1) < f; omega), (fun _ => by show (acc ++ _).length ≤ q3.at_ + 1; rw [List.length_append]; simp; omega), hu⟩, (by show 2 * f + 1 < 2 * (f + 1) + 1; omega), Vz rfl (Vw _) by4, (Vt _ (Vu _ (Vy (Vw _) (Vy (Vw _) (Vy (Vw _) (Vy (Vw _) (Vy (Vw _) (Vy (Vw _) (Vy (Vw _) (Vy (Vw _) (Vy (Ub (by rw [Al.cellss_app']; rfl)) (Vx _)))))))))) (Vs _ (Vs _ (Vv rfl)))))⟩)
        | (rw [if_neg g92] at hu; exact ⟨(q3, f + 1, acc ++ [Al.mk (Pa.mk vk vs vn vl vp) (Ex.mk wk ws wn (Ty.mk wtk wts wtn wtl) wks wal wbs wp)], u89, false), ⟨l3, (by show L.length - q3.at_ < f + 1; omega), (fun h => by cases h), hu⟩, (by show 2 * (f + 1) + 0 < 2 * (f + 1) + 1; omega), Vz rfl (Vw _) by4, (Vt _ (Vu _ (Vy (Vw _) (Vy (Vw _) (Vy (Vw _) (Vy (Vw _) (Vy (Vw _) (Vy (Vw _) (Vy (Vw _) (Vy (Vw _) (Vy (Ub (by rw [Al.cellss_app']; rfl)) (Vx _)))))))))) (Vs _ (Vs _ (Vv rfl)))))⟩)
     ·exact absurd g48 (by decide)
    ·exact absurd g41 h4
   ·exact absurd g33 h3
  ·exact absurd g25 h2
 ·exact absurd g17 h1
set_option maxHeartbeats 4000000 in
set_option maxRecDepth 100000 in
theorem atom_par (b : Nat) (L : List Tok) (hL : L.length ≤ 100000) (n : Nat) (E : PS → Ex × PS) (HE : ExC b L n E) (HA : ∀ q, POk L n q → Adv L q (E q).2) (p : PS) (k : POk L n p) (h1 : (nxt L p).k ≠ 1) (h2 : (nxt L p).k ≠ 2) (h3 : (nxt L p).k ≠ 3) (h4 : (nxt L p).k ≠ 4) (hc : ¬ isP L p kCase = true) (r : Ex × PS)
    (hr : (if isP L (takeP L p 7 kLP).2 kRP = true then (namE 4 kUnit (nxt L p).a, stepP (takeP L p 7 kLP).2)
     else if (nxt L (takeP L p 7 kLP).2).k = 5 then (namE 3 (takeP L (takeP L p 7 kLP).2 5 kE).1.t (nxt L p).a, (takeP L (takeP L (takeP L p 7 kLP).2 5 kE).2 7 kRP).2)
     else annG L (nxt L p).a (E (takeP L p 7 kLP).2)) = r) : MCall Tryz.prog 124 [.ptr b 0] (.loc b (psC L p)) (.agg r.1.cells) (.loc b (psC L r.2)) := by
 have HN := next_c b L p
 have H1 := take_c b L hL p k.1 7 kLP
 have k1 := (Yn (kind := 7) (s := kLP) (by decide) k).ok k
 obtain ⟨⟨tk, tt, tn, ta⟩, ht⟩ : ∃ t, nxt L p = t := ⟨_, rfl⟩
 rw [ht] at HN hr h1 h2 h3 h4
 simp only [Tok.av] at HN hr h1 h2 h3 h4
 obtain ⟨⟨u1, p1⟩, e1⟩ : ∃ r, takeP L p 7 kLP = r := ⟨_, rfl⟩
 rw [e1] at H1 hr k1
 simp only [] at H1 hr k1
 have HN1 := next_c b L p1
 obtain ⟨⟨qk, qt, qn, qa⟩, ht1⟩ : ∃ t, nxt L p1 = t := ⟨_, rfl⟩
 rw [ht1] at HN1 hr
 have H5 := take_c b L hL p1 k1.1 5 kE
 have k5 := (Yn (kind := 5) (s := kE) (by decide) k1).ok k1
 have HX := HE p1 k1
 have kx := (HA p1 k1).ok k1
 obtain ⟨⟨⟨ok, ot, on, oa⟩, p5⟩, e5⟩ : ∃ r, takeP L p1 5 kE = r := ⟨_, rfl⟩
 rw [e5] at H5 k5 hr
 obtain ⟨⟨⟨xk, xs, xn, ⟨xtk, xts, xtn, xtl⟩, xks, xal, xbs, xp⟩, p2⟩, e2⟩ : ∃ r, E p1 = r := ⟨_, rfl⟩
 rw [e2] at HX kx hr
 unfold annG at hr
 simp only [Tok.av, Ex.cells, Ty.cells, List.cons_append, List.nil_append] at HN1 H5 k5 hr HX kx
 refine Zv Tryz.func124 J (by kernel_rfl) J (Uc J) ?_
 refine Yg ?_
 refine Zg (Zc ?_)
 refine Za 2 J J J (Zw (cs' := [_, _, _, _, _, _, _, _, _, _, _]) J Xz J J ?_); intro b2
 refine Vp (Zb (Zg (Zc ?_)))
 refine Za 9 J J J (Zd J J ?_)
 refine Za 10 J J J (Wp (xs := [.tmp 9]) [1] J J J (HN) by1 ?_)
 refine Za 3 J J J (Zw (cs' := [_, _, _, _]) J Wh J J ?_); intro b3
 refine Zo J J (Zm (cs' := [_, _, _, _]) (i := 0) J Xl J J J J J (Uc J) J ?_)
 refine Vp (Zb (Zg (Zc ?_)))
 refine Za 11 J J J (Zf J Wv J ?_)
 refine Za 12 J J J (Zl (i := 0) J Xh J J J ?_)
 refine Za 13 J J J (Yk (ns := [7]) (xs := [.tmp 12]) J Xz J tfl_110 J J J J ?_)
 refine Za 4 J J J (Zw (cs' := [_, _, _, _, _, _, _, _, _, _, _]) J Xz J J ?_); intro b4
 refine Zo J J (Zm (cs' := [_, _, _, _, _, _, _, _, _, _, _]) (i := 0) J Wk J J J J J (Uc J) J ?_)
 refine Vp (Zb (Zg (Zz (Zg (Zc ?_)))))
 refine Za 15 J J J (Zf J Xd J ?_)
 refine Za 16 J J J (Zl (i := 1) J Xh J J J ?_)
 refine Za 17 J J J (Yv J J J ?_); intro c17 h17
 refine Za 14 J J J (Ze J J ?_)
 refine Vp (Zb ?_)
 rcases Zh h17 with ⟨rfl, g17⟩ | ⟨rfl, g17⟩
 ·refine Zn J (Zg (Zc ?_))
  refine Za 23 J J J (Zf J Xd J ?_)
  refine Za 24 J J J (Zl (i := 1) J Xh J J J ?_)
  refine Za 25 J J J (Yv J J J ?_); intro c25 h25
  refine Za 22 J J J (Ze J J ?_)
  refine Vp (Zb ?_)
  rcases Zh h25 with ⟨rfl, g25⟩ | ⟨rfl, g25⟩
  ·refine Zn J (Zg (Zc ?_))
   refine Za 31 J J J (Zf J Xd J ?_)
   refine Za 32 J J J (Zl (i := 1) J Xh J J J ?_)
   refine Za 33 J J J (Yv J J J ?_); intro c33 h33
   refine Za 30 J J J (Ze J J ?_)
   refine Vp (Zb ?_)
   rcases Zh h33 with ⟨rfl, g33⟩ | ⟨rfl, g33⟩
   ·refine Zn J (Zg (Zc ?_))
    refine Za 39 J J J (Zf J Xd J ?_)
    refine Za 40 J J J (Zl (i := 1) J Xh J J J ?_)
    refine Za 41 J J J (Yv J J J ?_); intro c41 h41
    refine Za 38 J J J (Ze J J ?_)
    refine Vp (Zb ?_)
    rcases Zh h41 with ⟨rfl, g41⟩ | ⟨rfl, g41⟩
    ·refine Zn J (Zt ?_)
     refine Yr ?_
     refine Zb (Zg (Zg (Zc ?_)))
     refine Za 46 J J J (Zf J tf_110_0 J ?_)
     refine Za 47 J J J (Zl (i := 0) J Xh J J J ?_)
     refine Za 48 J J J (Vc J J J ?_); intro c48 h48
     refine Vp (Zb ?_)
     rcases Zh h48 with ⟨rfl, g48⟩ | ⟨rfl, g48⟩
     ·refine Zn J (Zt (Zb (Zg (Zg (Zc ?_)))))
      refine Za 57 J J J (Zd J J ?_)
      refine Za 58 J J J (Yh (xs := [.tmp 57, .const (.string ⟨#[99, 97, 115, 101]⟩)]) (i := 3) J J J (may_no hL hc) by1 ?_)
      refine Vp (Zb ?_)
      refine Zn J ?_
      refine Zt ?_
      refine Zb (Zg (Zc ?_))
      refine Za 96 J J J (Zd J J ?_)
      refine Za 97 J J J (Yh (xs := [.tmp 96, .const (.int .i64 7), .const (.string ⟨#[40]⟩)]) (i := 3) J J J (H1) by1 ?_)
      refine Vp (Zb (Zg (Zg (Zc ?_))))
      refine Za 98 J J J (Zd J J ?_)
      refine Za 99 J J J (op_mayc (xs := [.tmp 98, .const (.string ⟨#[41]⟩)]) (i := 3) J J J (may_c b L hL p1 kRP) by1 ?_ ?_)
      ·intro g99
       refine Vp (Zb ?_)
       refine Zq J ?_
       refine Zg (Zc ?_)
       refine Za 100 J J J (Zf J Wv J ?_)
       refine Za 101 J J J (Zl (i := 1) J Xh J J J ?_)
       refine Za 102 J J J (Yk (ns := [0, 1, 7]) (xs := [.const (.int .i64 4), .const (.string ⟨#[85, 110, 105, 116]⟩), .tmp 101]) J Xz J tfl_110 J J J J ?_)
       refine Zo J J (Zm (cs' := [_, _, _, _, _, _, _, _, _, _, _]) (i := 2) J Wk J J J J J (Uc J) J ?_)
       refine Vp (Zb ?_)
       refine Ya ?_
       rw [if_pos g99] at hr; subst hr; exact Yj (i := 2) rfl rfl rfl Wb rfl by0 (Vt _ (Vt _ (Vt _ (Vv rfl)))) ⟨rfl, rfl⟩
      ·intro g99
       refine Vp (Zb ?_)
       refine Zn J ?_
       refine Zt ?_
       refine Zb (Zg (Zg (Zc ?_)))
       refine Za 103 J J J (Zd J J ?_)
       refine Za 104 J J J (Wp (xs := [.tmp 103]) [3] J J J (HN1) by1 ?_)
       refine Za 105 J J J (Va (ft := 3) (fo := 0) J (by kernel_rfl) Xh J J ?_)
       refine Za 106 J J J (Yv J J J ?_); intro c106 h106
       refine Vp (Zb ?_)
       rcases Zh h106 with ⟨rfl, g106⟩ | ⟨rfl, g106⟩
       ·refine Zn J (Zt (Zb (Zg (Zc ?_))))
        refine Za 116 J J J (Zd J J ?_)
        refine Za 117 J J J (Yh (xs := [.tmp 116]) (i := 3) J J J (HX) by1 ?_)
        refine Za 8 J J J (Zw (cs' := [_, _, _, _, _, _, _, _, _, _, _]) J Xz J J ?_); intro b8
        refine Zo J J (Zm (cs' := [_, _, _, _, _, _, _, _, _, _, _]) (i := 0) J Wk J J J J J (Uc J) J ?_)
        refine Vp (Zb (Zg (Zg ?_)))
        rw [if_neg g99, if_neg g106] at hr
        refine Zc ?_
        refine Za 118 J J J (Zd J J ?_)
        refine Za 119 J J J (op_mayc (xs := [.tmp 118, .const (.string ⟨#[58]⟩)]) (i := 4) J J J (may_c b L hL p2 kColon) by1 ?_ ?_)
        ·intro g119
         refine Vp (Zb ?_)
         refine Zq J ?_
         have ka := (Xn kx g119).ok kx
         have HT := typeP_c b L hL n _ ka
         have k8 := (typeP_adv ka).ok ka
         have H8 := take_c b L hL _ k8.1 7 kRP
         rw [if_pos g119] at hr
         obtain ⟨⟨⟨wk, ws, wn, wl⟩, p3⟩, e3⟩ : ∃ r, typeP L (stepP p2) = r := ⟨_, rfl⟩
         rw [e3] at HT H8 hr
         simp only [Ty.cells] at HT H8 hr
         refine Xs [0, 2, 3, 4, 5, 1, 6, 7] [1, 7] [[], [0], [], [2], [], [4], [0, 1, 2, 3, 4, 5], [0, 1, 2, 3, 4, 5, 6]] Wm J ?_
         refine Zx 120 (none) (i := 0) J J J J J (Zd J J ⟨J, J⟩) ?_
         refine Zx 122 (some 0) (i := 2) J J J J J (Zy (cs' := [_, _, _, _, _, _, _, _, _, _, _]) (i := 0) J Wb J J J J ⟨J, J⟩) ?_
         refine Zx 123 (none) (i := 3) J J J J J (Ye (xs := [.tmp 122]) el_107 J J J J J J (Uc J) ⟨J, J⟩) ?_
         refine Zx 124 (none) (i := 4) J J J J J (Zf J Wv J ⟨J, J⟩) ?_
         refine Zx 125 (some 2) (i := 5) J J J J J (Zl (i := 0) J Xh J J J ⟨J, J⟩) ?_
         refine Xm 4 (i := 1) J J J J J (Yh (xs := [.tmp 120]) (i := 0) J J J (HT) by1 ⟨_, J, ?_⟩)
         refine Zx 126 (none) (i := 6) J J J J J (Yk (ns := [0, 3, 4, 7]) (xs := [.const (.int .i64 12), .tmp 121, .tmp 123, .tmp 125]) J Xz J tfl_110 J J J J ⟨J, J⟩) ?_
         refine Xm 0 (i := 7) J J J J J (Zm (cs' := [_, _, _, _, _, _, _, _, _, _, _]) (i := 0) J Wk J J J J J (Uc J) J ⟨_, J, ?_⟩)
         show AGo _ _ _ _ _ _ _
         refine Zb (Zg ?_)
         first | have H9 := H8 | have H9 := take_c b L hL p2 kx.1 7 kRP
         refine Zc ?_
         refine Za 127 J J J (Zd J J ?_)
         refine Za 128 J J J (Yh (xs := [.tmp 127, .const (.int .i64 7), .const (.string ⟨#[41]⟩)]) (i := 4) J J J (H9) by1 ?_)
         refine Vp (Zb (Zg (Zc ?_)))
         refine Za 129 J J J (Zy (cs' := [_, _, _, _, _, _, _, _, _, _, _]) (i := 0) J Wb J J J J ?_)
         refine Zo J J (Zm (cs' := [_, _, _, _, _, _, _, _, _, _, _]) (i := 3) J Wk J J J J J (Uc J) J ?_)
         refine Vp (Zb ?_)
         refine Ya ?_
         subst hr; exact Yj (i := 3) rfl rfl rfl Wb rfl by0 (Vt _ (Vt _ (Vt _ (Vt _ (Vv rfl))))) ⟨rfl, rfl⟩
        ·intro g119
         refine Vp (Zb ?_)
         refine Zn J ?_
         refine Zt ?_
         refine Zb (Zg ?_)
         first | have H9 := H8 | have H9 := take_c b L hL p2 kx.1 7 kRP
         refine Zc ?_
         refine Za 127 J J J (Zd J J ?_)
         refine Za 128 J J J (Yh (xs := [.tmp 127, .const (.int .i64 7), .const (.string ⟨#[41]⟩)]) (i := 4) J J J (H9) by1 ?_)
         refine Vp (Zb (Zg (Zc ?_)))
         refine Za 129 J J J (Zy (cs' := [_, _, _, _, _, _, _, _, _, _, _]) (i := 0) J Wb J J J J ?_)
         refine Zo J J (Zm (cs' := [_, _, _, _, _, _, _, _, _, _, _]) (i := 3) J Wk J J J J J (Uc J) J ?_)
         refine Vp (Zb ?_)
         refine Ya ?_
         rw [if_neg g119] at hr; subst hr; exact Yj (i := 3) rfl rfl rfl Wb rfl by0 (Vt _ (Vt _ (Vt _ (Vt _ (Vv rfl))))) ⟨rfl, rfl⟩
       ·refine Zq J (Zg (Zc ?_))
        refine Za 107 J J J (Zd J J ?_)
        refine Za 108 J J J (Yh (xs := [.tmp 107, .const (.int .i64 5), .const (.string ⟨#[]⟩)]) (i := 3) J J J (H5) by1 ?_)
        refine Za 7 J J J (Zw (cs' := [_, _, _, _]) J Wh J J ?_); intro b7
        refine Zo J J (Zm (cs' := [_, _, _, _]) (i := 0) J Xl J J J J J (Uc J) J ?_)
        refine Vp (Zb (Zg (Zc ?_)))
        refine Za 109 J J J (Zd J J ?_)
        refine Za 110 J J J (Yh (xs := [.tmp 109, .const (.int .i64 7), .const (.string ⟨#[41]⟩)]) (i := 4) J J J (take_c b L hL p5 k5.1 7 kRP) by1 ?_)
        refine Vp (Zb (Zg (Zc ?_)))
        refine Za 111 J J J (Zf J Xf J ?_)
        refine Za 112 J J J (Zl (i := 0) J Xc J J J ?_)
        refine Za 113 J J J (Zf J Wv J ?_)
        refine Za 114 J J J (Zl (i := 2) J Xh J J J ?_)
        refine Za 115 J J J (Yk (ns := [0, 1, 7]) (xs := [.const (.int .i64 3), .tmp 112, .tmp 114]) J Xz J tfl_110 J J J J ?_)
        refine Zo J J (Zm (cs' := [_, _, _, _, _, _, _, _, _, _, _]) (i := 3) J Wk J J J J J (Uc J) J ?_)
        refine Vp (Zb ?_)
        refine Ya ?_
        rw [if_neg g99, if_pos g106] at hr; subst hr; exact Yj (i := 3) rfl rfl rfl Wb rfl by0 (Vt _ (Vt _ (Vt _ (Vt _ (Vv rfl))))) ⟨rfl, rfl⟩
     ·exact absurd g48 (by decide)
    ·exact absurd g41 h4
   ·exact absurd g33 h3
  ·exact absurd g25 h2
 ·exact absurd g17 h1
theorem atom_c (b : Nat) (L : List Tok) (hL : L.length ≤ 100000) (n : Nat) (E : PS → Ex × PS) (HE : ExC b L n E) (HA : ∀ q, POk L n q → Adv L q (E q).2) (p : PS) (k : POk L n p) : MCall Tryz.prog 124 [.ptr b 0] (.loc b (psC L p)) (.agg (atomG L E p).1.cells) (.loc b (psC L (atomG L E p).2)) := by
 by_cases h1 : (nxt L p).k = 1
 ·exact atom_lit b L hL n E p k (.inl h1)
 by_cases h2 : (nxt L p).k = 2
 ·exact atom_lit b L hL n E p k (.inr (.inl h2))
 by_cases h3 : (nxt L p).k = 3
 ·exact atom_lit b L hL n E p k (.inr (.inr (.inl h3)))
 by_cases h4 : (nxt L p).k = 4
 ·exact atom_lit b L hL n E p k (.inr (.inr (.inr h4)))
 by_cases h5 : isP L p kCase = true
 ·rw [atomG, if_neg h1, if_neg h2, if_neg h3, if_neg h4, if_pos h5]; exact atom_case b L hL n E HE HA p k h1 h2 h3 h4 h5
 ·exact atom_par b L hL n E HE HA p k h1 h2 h3 h4 h5 _ (by rw [atomG, if_neg h1, if_neg h2, if_neg h3, if_neg h4, if_neg h5])
theorem may_eq {b : Nat} {L : List Tok} (hL : L.length ≤ 100000) {p : PS} {s : ByteArray} {c : Bool} (h : isP L p s = c) : MCall Tryz.prog 51 [.ptr b 0, .val (.string s)] (.loc b (psC L p)) (.val (.bool c)) (.loc b (psC L (if c = true then stepP p else p))) := by
 cases c with
 | true => exact may_yes hL h
 | false => exact may_no hL (by rw [h]; simp)
set_option maxHeartbeats 4000000 in
set_option maxRecDepth 100000 in
theorem operand_lam (b : Nat) (L : List Tok) (hL : L.length ≤ 100000) (n : Nat) (E : PS → Ex × PS) (HE : ExC b L n E) (p : PS) (k : POk L n p) (h1 : isP L p kBack = true) : MCall Tryz.prog 105 [.ptr b 0] (.loc b (psC L p)) (.agg (lambdaG L E (L.length + 1) (stepP p) (nxt L p).a).1.cells) (.loc b (psC L (lambdaG L E (L.length + 1) (stepP p) (nxt L p).a).2)) := by
 have HN := next_c b L p
 have HL := lambda_c b L hL n E HE (L.length + 1) (stepP p) (nxt L p).a ((Xn k h1).ok k) (by omega)
 obtain ⟨⟨tk, tt, tn, ta⟩, ht⟩ : ∃ t, nxt L p = t := ⟨_, rfl⟩
 rw [ht] at HN HL ⊢
 simp only [Tok.av] at HN HL ⊢
 obtain ⟨⟨⟨xk, xs, xn, ⟨xtk, xts, xtn, xtl⟩, xks, xal, xbs, xp⟩, p3⟩, e3⟩ : ∃ r, lambdaG L E (L.length + 1) (stepP p) ta = r := ⟨_, rfl⟩
 rw [e3] at HL ⊢
 simp only [Ex.cells, Ty.cells, List.cons_append, List.nil_append] at HL ⊢
 refine Zv Tryz.func105 J (by kernel_rfl) J (Uc J) ?_
 refine Yg ?_
 refine Zg (Zc ?_)
 refine Za 2 J J J (Zw (cs' := [_, _, _, _, _, _, _, _, _, _, _]) J Xz J J ?_); intro b2
 refine Vp (Zb (Zg (Zc ?_)))
 refine Za 9 J J J (Zd J J ?_)
 refine Za 10 J J J (Wp (xs := [.tmp 9]) [1] J J J (HN) by1 ?_)
 refine Za 3 J J J (Zw (cs' := [_, _, _, _]) J Wh J J ?_); intro b3
 refine Zo J J (Zm (cs' := [_, _, _, _]) (i := 0) J Xl J J J J J (Uc J) J ?_)
 refine Vp (Zb (Zg (Zg (Zc ?_))))
 refine Za 11 J J J (Zd J J ?_)
 refine Za 12 J J J (Yh (xs := [.tmp 11, .const (.string ⟨#[92]⟩)]) (i := 2) J J J (may_yes hL h1) by1 ?_)
 refine Vp (Zb ?_)
 refine Zq J ?_
 refine Zg (Zc ?_)
 refine Za 13 J J J (Zd J J ?_)
 refine Za 14 J J J (Zf J Wv J ?_)
 refine Za 15 J J J (Zl (i := 0) J Xh J J J ?_)
 refine Za 16 J J J (Yh (xs := [.tmp 13, .tmp 15]) (i := 2) J J J (HL) by1 ?_)
 refine Zo J J (Zm (cs' := [_, _, _, _, _, _, _, _, _, _, _]) (i := 1) J Wk J J J J J (Uc J) J ?_)
 refine Vp (Zb ?_)
 refine Ya ?_
 exact Yj (i := 1) J J J Wb J (Vw _) (Vt _ (Vt _ (Vv J))) ⟨J, J⟩
theorem bindsL_go {L : List Tok} {E : PS → Ex × PS} {f : Nat} {p : PS} {acc : List Bi} (h : isP L p kAnd = true) : bindsL L E (f + 1) p acc = bindsL L E f (bindG L E (stepP p)).2 (acc ++ [(bindG L E (stepP p)).1]) := by rw [bindsL, if_pos h]
theorem bindsL_end {L : List Tok} {E : PS → Ex × PS} {f : Nat} {p : PS} {acc : List Bi} (h : ¬ isP L p kAnd = true) : bindsL L E f p acc = (acc, p) := by
 cases f with
 | zero => rfl
 | succ f => rw [bindsL, if_neg h]
set_option maxHeartbeats 4000000 in
set_option maxRecDepth 100000 in
theorem operand_let (b : Nat) (L : List Tok) (hL : L.length ≤ 100000) (n : Nat) (E : PS → Ex × PS) (HE : ExC b L n E) (HA : ∀ q, POk L n q → Adv L q (E q).2) (p : PS) (k : POk L n p) (h1 : ¬ isP L p kBack = true) (h2 : isP L p kLet = true) (c23 : Bool) (h3 : isP L (stepP p) kRec = c23) (r : Ex × PS) (hr : letG L E (nxt L p).a (if c23 = true then 1 else 0) (if c23 = true then stepP (stepP p) else stepP p) = r) : MCall Tryz.prog 105 [.ptr b 0] (.loc b (psC L p)) (.agg r.1.cells) (.loc b (psC L r.2)) := by
 have HN := next_c b L p
 have k1 := (Xn k h2).ok k
 have HM := may_eq (b := b) hL h3
 have kq : POk L n (if c23 = true then stepP (stepP p) else stepP p) := by
  cases c23 with
  | true => exact (Xn k1 h3).ok k1
  | false => exact k1
 obtain ⟨⟨tk, tt, tn, ta⟩, ht⟩ : ∃ t, nxt L p = t := ⟨_, rfl⟩
 rw [ht] at HN hr
 simp only [Tok.av] at HN hr
 obtain ⟨p2, hp2⟩ : ∃ q, (if c23 = true then stepP (stepP p) else stepP p) = q := ⟨_, rfl⟩
 rw [hp2] at HM hr kq
 unfold letG at hr
 simp only [] at hr
 have HB := bind_c b L hL n E HE p2 kq
 have k3 := (bindG_adv HA kq).ok kq
 obtain ⟨⟨⟨bn, ⟨xk, xs, xn, ⟨xtk, xts, xtn, xtl⟩, xks, xal, xbs, xp⟩, bp⟩, p3⟩, e3⟩ : ∃ r, bindG L E p2 = r := ⟨_, rfl⟩
 rw [e3] at HB hr k3
 have k4 := (bindsL_adv HA (L.length + 1) p3 [Bi.mk bn (Ex.mk xk xs xn (Ty.mk xtk xts xtn xtl) xks xal xbs xp) bp] k3).ok k3
 obtain ⟨⟨bl, p4⟩, e4⟩ : ∃ r, bindsL L E (L.length + 1) p3 [Bi.mk bn (Ex.mk xk xs xn (Ty.mk xtk xts xtn xtl) xks xal xbs xp) bp] = r := ⟨_, rfl⟩
 simp only [] at hr k3
 rw [e4] at hr k4
 simp only [] at hr k4
 have H4 := take_c b L hL p4 k4.1 6 kIn
 have k5 := (Yn (kind := 6) (s := kIn) (by decide) k4).ok k4
 obtain ⟨⟨u5, p5⟩, e5⟩ : ∃ r, takeP L p4 6 kIn = r := ⟨_, rfl⟩
 rw [e5] at hr k5 H4
 simp only [] at hr k5 H4
 have HX := HE p5 k5
 obtain ⟨⟨⟨yk, ys, yn, ⟨ytk, yts, ytn, ytl⟩, yks, yal, ybs, yp⟩, p6⟩, e6⟩ : ∃ r, E p5 = r := ⟨_, rfl⟩
 rw [e6] at HX hr
 simp only [Bi.cells, Ex.cells, Ty.cells, List.cons_append, List.nil_append] at HB HX hr
 refine Zv Tryz.func105 J (by kernel_rfl) J (Uc J) ?_
 refine Yg ?_
 refine Zg (Zc ?_)
 refine Za 2 J J J (Zw (cs' := [_, _, _, _, _, _, _, _, _, _, _]) J Xz J J ?_); intro b2
 refine Vp (Zb (Zg (Zc ?_)))
 refine Za 9 J J J (Zd J J ?_)
 refine Za 10 J J J (Wp (xs := [.tmp 9]) [1] J J J (HN) by1 ?_)
 refine Za 3 J J J (Zw (cs' := [_, _, _, _]) J Wh J J ?_); intro b3
 refine Zo J J (Zm (cs' := [_, _, _, _]) (i := 0) J Xl J J J J J (Uc J) J ?_)
 refine Vp (Zb (Zg (Zg (Zc ?_))))
 refine Za 11 J J J (Zd J J ?_)
 refine Za 12 J J J (Yh (xs := [.tmp 11, .const (.string ⟨#[92]⟩)]) (i := 2) J J J (may_no hL h1) by1 ?_)
 refine Vp (Zb ?_)
 refine Zn J ?_
 refine Zt ?_
 refine Zb (Zg (Zg (Zc ?_)))
 refine Za 17 J J J (Zd J J ?_)
 refine Za 18 J J J (Yh (xs := [.tmp 17, .const (.string ⟨#[108, 101, 116]⟩)]) (i := 2) J J J (may_yes hL h2) by1 ?_)
 refine Vp (Zb ?_)
 refine Zq J ?_
 refine Zg (Zc ?_)
 refine Za 19 J J J (Zf J Wv J ?_)
 refine Za 20 J J J (Zl (i := 0) J Xh J J J ?_)
 refine Za 21 J J J (Yk (ns := [0, 7]) (xs := [.const (.int .i64 7), .tmp 20]) J Xz J tfl_110 J J J J ?_)
 refine Za 4 J J J (Zw (cs' := [_, _, _, _, _, _, _, _, _, _, _]) J Xz J J ?_); intro b4
 refine Zo J J (Zm (cs' := [_, _, _, _, _, _, _, _, _, _, _]) (i := 0) J Wk J J J J J (Uc J) J ?_)
 refine Vp (Zb (Zg (Zg (Zc ?_))))
 refine Za 22 J J J (Zd J J ?_)
 refine Za 23 J J J (Yh (xs := [.tmp 22, .const (.string ⟨#[114, 101, 99]⟩)]) (i := 3) J J J (HM) by1 ?_)
 refine Vp (Zb ?_)
 apply c_joink [1, 9, 10, 11, 12, 13, 14, 15, 16, 17, 18, 19, 20, 21, 22, 23, 24, 42, 56, 60] (σ := Unit) (fun zz => match zz with | z => []) (fun zz => match zz with | z => [.loc b4 [.val (.int .i64 7), .val (.string kE), .val (.int .i64 (if c23 = true then 1 else 0)), .val (.int .i64 0), .val (.string kE), .val (.int .i64 0), .val (.slice none 0 0), .val (.slice none 0 0), .val (.slice none 0 0), .val (.slice none 0 0), .val (.int .i64 ta)], .loc b3 (Tok.mk tk tt tn ta).av, .loc b2 zEx, .loc b (psC L p2)]) (fun zz => match zz with | z => True)
 ·repeat' (first | exact Uf | apply Ud rfl | apply Ue rfl)
 ·skip
  rcases c23 with _ | _
  ·refine Zn J (Zt ?_)
   refine Yx ?_
   exact ⟨(), trivial, by4, Vv J⟩
  ·refine Zq J (Zc ?_)
   refine Za 24 J J J (Zf J tf_110_2 J ?_)
   refine Zo J J (Zm (cs' := [_, _, _, _, _, _, _, _, _, _, _]) (i := 0) J ts_2 J J J J J (Uc J) J ?_)
   refine Vp ?_
   refine Yx ?_
   exact ⟨(), trivial, by4, Vv J⟩
 rintro z hI
 try dsimp only [List.cons_append, List.nil_append] at hI ⊢
 refine Zb (Zg ?_)
 refine Xs [0, 1, 2, 3, 4, 5, 6, 7] [3, 5, 7] [[], [0], [], [2], [2, 3], [0, 1, 2, 3, 4], [0, 1, 2, 3, 4, 5], [0, 1, 2, 3, 4, 5, 6]] Wm J ?_
 refine Zx 25 (none) (i := 0) J J J J J (Zf J tf_110_6 J ⟨J, J⟩) ?_
 refine Zx 26 (some 0) (i := 1) J J J J J (Zl (i := 0) J ta_53 J J J ⟨J, J⟩) ?_
 refine Zx 27 (none) (i := 2) J J J J J (Zd J J ⟨J, J⟩) ?_
 refine Xm 3 (i := 3) J J J J J (Yh (xs := [.tmp 27]) (i := 0) J J J (HB) by1 ⟨_, J, ?_⟩)
 refine Zx 29 (none) (i := 4) J J J J J (Ye (xs := [.tmp 28]) el_53 J J J J J J (Uc J) ⟨J, J⟩) ?_
 refine EOps.nw (i := 5) J J J (op_append_nil el_53 J J J (.seq _ _) by6 (fun u30 => ⟨_, J, ?_⟩))
 refine Zx 31 (none) (i := 6) J J J J J (Zf J tf_110_6 J ⟨J, J⟩) ?_
 refine Xm 0 (i := 7) J J J J J (Zm (cs' := [_, _, _, _, _, _, _, _, _, _, _]) (i := 0) J ts_53 J J J J J (Uc J) J ⟨_, J, ?_⟩)
 show AGo _ _ _ _ _ _ _
 refine Zb (Zg (Zz ?_))
 apply Wc [1, 9, 10, 11, 12, 13, 14, 15, 16, 17, 18, 19, 20, 21, 22, 23, 24, 25, 26, 27, 28, 29, 30, 31, 32, 33, 34, 35, 36, 37, 38, 39, 40, 42, 56, 60] (σ := PS × Nat × List Bi × Value) (fun zz => match zz with | (q, f, acc, u) => []) (fun zz => match zz with | (q, f, acc, u) => [.loc b4 [.val (.int .i64 7), .val (.string kE), .val (.int .i64 (if c23 = true then 1 else 0)), .val (.int .i64 0), .val (.string kE), .val (.int .i64 0), .val (.slice none 0 0), .val (.slice none 0 0), .val (.slice none 0 0), .own u 13 (Bi.cellss acc), .val (.int .i64 ta)], .loc b3 (Tok.mk tk tt tn ta).av, .loc b2 zEx, .loc b (psC L q), .own 112 13 u]) (fun zz => match zz with | (q, f, acc, u) => POk L n q ∧ L.length - q.at_ < f ∧ acc.length ≤ q.at_ + 1 ∧ bindsL L E f q acc = (bl, p4)) (fun zz => match zz with | (q, f, acc, u) => f) ((p3, L.length + 1, [Bi.mk bn (Ex.mk xk xs xn (Ty.mk xtk xts xtn xtl) xks xal xbs xp) bp], u30))
 ·repeat' (first | exact Uf | apply Ud rfl | apply Ue rfl)
 ·exact ⟨k3, by omega, by simp, e4⟩
 ·exact by4
 ·exact (Vv J)
 rintro ⟨q, f, acc, u⟩ hI
 try dsimp only [List.cons_append, List.nil_append] at hI ⊢
 obtain ⟨i1, i2, i3, hu⟩ := hI
 have hq1 := i1.1
 have hle : (Bi.cellss acc).length ≤ 200000 := by rw [Bi.cellss_len]; omega
 refine Zg (Zg (Zc ?_))
 refine Za 32 J J J (Zd J J ?_)
 refine Za 33 J J J (op_mayc (xs := [.tmp 32, .const (.string ⟨#[97, 110, 100]⟩)]) (i := 3) J J J (may_c b L hL q kAnd) by1 ?_ ?_)
 ·intro g33
  refine Vp (Zb ?_)
  refine Zq J ?_
  refine Zt ?_
  refine Zb (Zz ?_)
  obtain ⟨f, rfl⟩ : ∃ f', f = f' + 1 := ⟨f - 1, by omega⟩
  rw [bindsL_go g33] at hu
  have l1 := (Xn i1 g33).ok i1
  have l2 := (bindG_adv HA l1).ok l1
  have b2' : (stepP q).at_ ≤ _ := (bindG_adv HA l1).1
  have b4' : (stepP q).at_ = q.at_ + 1 := rfl
  have b5' := (is_lt g33).2
  have HB2 := bind_c b L hL n E HE _ l1
  obtain ⟨⟨⟨cn, ⟨wk, ws, wn, ⟨wtk, wts, wtn, wtl⟩, wks, wal, wbs, wp⟩, cp⟩, q2⟩, f2⟩ : ∃ r, bindG L E (stepP q) = r := ⟨_, rfl⟩
  rw [f2] at HB2 hu l2 b2'
  simp only [Bi.cells, Ex.cells, Ty.cells, List.cons_append, List.nil_append] at HB2 hu l2 b2'
  have l3 := l2.1
  refine Xs [0, 1, 2, 3, 4, 5, 6, 7] [3, 5, 7] [[], [0], [], [2], [2, 3], [0, 1, 2, 3, 4], [0, 1, 2, 3, 4, 5], [0, 1, 2, 3, 4, 5, 6]] Wm J ?_
  refine Zx 34 (none) (i := 0) J J J J J (Zf J tf_110_6 J ⟨J, J⟩) ?_
  refine Zx 35 (some 0) (i := 1) J J J J J (Zl (i := 0) J ta_53 J J J ⟨J, J⟩) ?_
  refine Zx 36 (none) (i := 2) J J J J J (Zd J J ⟨J, J⟩) ?_
  refine Xm 3 (i := 3) J J J J J (Yh (xs := [.tmp 36]) (i := 0) J J J (HB2) by1 ⟨_, J, ?_⟩)
  refine Zx 38 (none) (i := 4) J J J J J (Ye (xs := [.tmp 37]) el_53 J J J J J J (Uc J) ⟨J, J⟩) ?_
  refine Xm 4 (i := 5) J J J J J (Xi (i := 0) el_53 J J J J (.seq _ _) by6 (fun u39 => ⟨_, J, ?_⟩))
  refine Zx 40 (none) (i := 6) J J J J J (Zf J tf_110_6 J ⟨J, J⟩) ?_
  refine Xm 0 (i := 7) J J J J J (Zm (cs' := [_, _, _, _, _, _, _, _, _, _, _]) (i := 0) J ts_53 J J J J J (Uc J) J ⟨_, J, ?_⟩)
  show AGo _ _ _ _ _ _ _
  refine Yr ?_
  refine Yx ?_
  refine ⟨(q2, f, acc ++ [Bi.mk cn (Ex.mk wk ws wn (Ty.mk wtk wts wtn wtl) wks wal wbs wp) cp], u39), ⟨l2, (by show L.length - q2.at_ < f; omega), (by show (acc ++ [Bi.mk cn (Ex.mk wk ws wn (Ty.mk wtk wts wtn wtl) wks wal wbs wp) cp]).length ≤ q2.at_ + 1; rw [List.length_append]; simp; omega), hu⟩, Nat.lt_succ_self f, by4, (Vu _ (Vy (Vw _) (Vy (Vw _) (Vy (Vw _) (Vy (Vw _) (Vy (Vw _) (Vy (Vw _) (Vy (Vw _) (Vy (Vw _) (Vy (Vw _) (Vy (Ub by10) (Vx _))))))))))) (Vs _ (Vs _ (Vv J))))⟩
 ·intro g33
  refine Vp (Zb ?_)
  refine Zn J ?_
  refine Xb ?_
  refine Yz (Xt (Xa (Zb (Zg ?_))))
  rw [bindsL_end g33] at hu
  simp only [Prod.mk.injEq] at hu
  obtain ⟨rfl, rfl⟩ := hu
  refine Zc ?_
  refine Za 41 J J J (Zd J J ?_)
  refine Za 42 J J J (Yh (xs := [.tmp 41, .const (.int .i64 6), .const (.string ⟨#[105, 110]⟩)]) (i := 3) J J J (H4) by1 ?_)
  refine Vp (Zb (Zg ?_))
  refine Xs [0, 1, 2, 3, 4, 5, 6, 7] [3, 5, 7] [[], [0], [], [2], [2, 3], [0, 1, 2, 3, 4], [0, 1, 2, 3, 4, 5], [0, 1, 2, 3, 4, 5, 6]] Wm J ?_
  refine Zx 43 (none) (i := 0) J J J J J (Zf J tf_110_4 J ⟨J, J⟩) ?_
  refine Zx 44 (some 0) (i := 1) J J J J J (Zl (i := 0) J ta_107 J J J ⟨J, J⟩) ?_
  refine Zx 45 (none) (i := 2) J J J J J (Zd J J ⟨J, J⟩) ?_
  refine Xm 3 (i := 3) J J J J J (Yh (xs := [.tmp 45]) (i := 0) J J J (HX) by1 ⟨_, J, ?_⟩)
  refine Zx 47 (none) (i := 4) J J J J J (Ye (xs := [.tmp 46]) el_107 J J J J J J (Uc J) ⟨J, J⟩) ?_
  refine EOps.nw (i := 5) J J J (op_append_nil el_107 J J J (.seq _ _) by6 (fun u48 => ⟨_, J, ?_⟩))
  refine Zx 49 (none) (i := 6) J J J J J (Zf J tf_110_4 J ⟨J, J⟩) ?_
  refine Xm 0 (i := 7) J J J J J (Zm (cs' := [_, _, _, _, _, _, _, _, _, _, _]) (i := 0) J ts_107 J J J J J (Uc J) J ⟨_, J, ?_⟩)
  show AGo _ _ _ _ _ _ _
  refine Zb (Zg (Zc ?_))
  refine Za 50 J J J (Zy (cs' := [_, _, _, _, _, _, _, _, _, _, _]) (i := 0) J Wb J J J J ?_)
  refine Zo J J (Zm (cs' := [_, _, _, _, _, _, _, _, _, _, _]) (i := 2) J Wk J J J J J (Uc J) J ?_)
  refine Vp (Zb ?_)
  refine Ya ?_
  subst hr; exact Yj (i := 2) rfl rfl rfl Wb rfl by0 (Vt _ (Vt _ (Vt _ (Vs _ (Vr _))))) ⟨rfl, rfl⟩
set_option maxHeartbeats 4000000 in
set_option maxRecDepth 100000 in
theorem operand_if (b : Nat) (L : List Tok) (hL : L.length ≤ 100000) (n : Nat) (E : PS → Ex × PS) (HE : ExC b L n E) (HA : ∀ q, POk L n q → Adv L q (E q).2) (p : PS) (k : POk L n p) (h1 : ¬ isP L p kBack = true) (h2 : ¬ isP L p kLet = true) (h3 : isP L p kIf = true) : MCall Tryz.prog 105 [.ptr b 0] (.loc b (psC L p)) (.agg (ifG L E (nxt L p).a (stepP p)).1.cells) (.loc b (psC L (ifG L E (nxt L p).a (stepP p)).2)) := by
 have HN := next_c b L p
 obtain ⟨r, hr⟩ : ∃ r, ifG L E (nxt L p).a (stepP p) = r := ⟨_, rfl⟩
 rw [hr]
 unfold ifG at hr
 simp only [] at hr
 obtain ⟨⟨tk, tt, tn, ta⟩, ht⟩ : ∃ t, nxt L p = t := ⟨_, rfl⟩
 rw [ht] at HN hr
 simp only [Tok.av] at HN hr
 have k1 := (Xn k h3).ok k
 have H1 := HE _ k1
 have k2 := (HA _ k1).ok k1
 obtain ⟨⟨⟨xk, xs, xn, ⟨xtk, xts, xtn, xtl⟩, xks, xal, xbs, xp⟩, p2⟩, e2⟩ : ∃ r, E (stepP p) = r := ⟨_, rfl⟩
 rw [e2] at H1 k2 hr
 simp only [] at k2 hr
 have H2 := take_c b L hL p2 k2.1 6 kThen
 have k3 := (Yn (kind := 6) (s := kThen) (by decide) k2).ok k2
 obtain ⟨⟨u3, p3⟩, e3⟩ : ∃ r, takeP L p2 6 kThen = r := ⟨_, rfl⟩
 rw [e3] at H2 k3 hr
 simp only [] at H2 k3 hr
 have H3 := HE _ k3
 have k4 := (HA _ k3).ok k3
 obtain ⟨⟨⟨yk, ys, yn, ⟨ytk, yts, ytn, ytl⟩, yks, yal, ybs, yp⟩, p4⟩, e4⟩ : ∃ r, E p3 = r := ⟨_, rfl⟩
 rw [e4] at H3 k4 hr
 simp only [] at k4 hr
 have H4 := take_c b L hL p4 k4.1 6 kElse
 have k5 := (Yn (kind := 6) (s := kElse) (by decide) k4).ok k4
 obtain ⟨⟨u5, p5⟩, e5⟩ : ∃ r, takeP L p4 6 kElse = r := ⟨_, rfl⟩
 rw [e5] at H4 k5 hr
 simp only [] at H4 k5 hr
 have H5 := HE _ k5
 obtain ⟨⟨⟨zk, zs, zn, ⟨ztk, zts, ztn, ztl⟩, zks, zal, zbs, zp⟩, p6⟩, e6⟩ : ∃ r, E p5 = r := ⟨_, rfl⟩
 rw [e6] at H5 hr
 simp only [Ex.cells, Ty.cells, List.cons_append, List.nil_append] at H1 H3 H5 hr
 refine Zv Tryz.func105 J (by kernel_rfl) J (Uc J) ?_
 refine Yg ?_
 refine Zg (Zc ?_)
 refine Za 2 J J J (Zw (cs' := [_, _, _, _, _, _, _, _, _, _, _]) J Xz J J ?_); intro b2
 refine Vp (Zb (Zg (Zc ?_)))
 refine Za 9 J J J (Zd J J ?_)
 refine Za 10 J J J (Wp (xs := [.tmp 9]) [1] J J J (HN) by1 ?_)
 refine Za 3 J J J (Zw (cs' := [_, _, _, _]) J Wh J J ?_); intro b3
 refine Zo J J (Zm (cs' := [_, _, _, _]) (i := 0) J Xl J J J J J (Uc J) J ?_)
 refine Vp (Zb (Zg (Zg (Zc ?_))))
 refine Za 11 J J J (Zd J J ?_)
 refine Za 12 J J J (Yh (xs := [.tmp 11, .const (.string ⟨#[92]⟩)]) (i := 2) J J J (may_no hL h1) by1 ?_)
 refine Vp (Zb ?_)
 refine Zn J ?_
 refine Zt ?_
 refine Zb (Zg (Zg (Zc ?_)))
 refine Za 17 J J J (Zd J J ?_)
 refine Za 18 J J J (Yh (xs := [.tmp 17, .const (.string ⟨#[108, 101, 116]⟩)]) (i := 2) J J J (may_no hL h2) by1 ?_)
 refine Vp (Zb ?_)
 refine Zn J ?_
 refine Zt ?_
 refine Zb (Zg (Zg (Zc ?_)))
 refine Za 51 J J J (Zd J J ?_)
 refine Za 52 J J J (Yh (xs := [.tmp 51, .const (.string ⟨#[105, 102]⟩)]) (i := 2) J J J (may_yes hL h3) by1 ?_)
 refine Vp (Zb ?_)
 refine Zq J ?_
 refine Zg (Zc ?_)
 refine Za 53 J J J (Zd J J ?_)
 refine Za 54 J J J (Yh (xs := [.tmp 53]) (i := 2) J J J (H1) by1 ?_)
 refine Za 5 J J J (Zw (cs' := [_, _, _, _, _, _, _, _, _, _, _]) J Xz J J ?_); intro b5
 refine Zo J J (Zm (cs' := [_, _, _, _, _, _, _, _, _, _, _]) (i := 0) J Wk J J J J J (Uc J) J ?_)
 refine Vp (Zb (Zg (Zc ?_)))
 refine Za 55 J J J (Zd J J ?_)
 refine Za 56 J J J (Yh (xs := [.tmp 55, .const (.int .i64 6), .const (.string ⟨#[116, 104, 101, 110]⟩)]) (i := 3) J J J (H2) by1 ?_)
 refine Vp (Zb (Zg (Zc ?_)))
 refine Za 57 J J J (Zd J J ?_)
 refine Za 58 J J J (Yh (xs := [.tmp 57]) (i := 3) J J J (H3) by1 ?_)
 refine Za 6 J J J (Zw (cs' := [_, _, _, _, _, _, _, _, _, _, _]) J Xz J J ?_); intro b6
 refine Zo J J (Zm (cs' := [_, _, _, _, _, _, _, _, _, _, _]) (i := 0) J Wk J J J J J (Uc J) J ?_)
 refine Vp (Zb (Zg (Zc ?_)))
 refine Za 59 J J J (Zd J J ?_)
 refine Za 60 J J J (Yh (xs := [.tmp 59, .const (.int .i64 6), .const (.string ⟨#[101, 108, 115, 101]⟩)]) (i := 4) J J J (H4) by1 ?_)
 refine Vp (Zb (Zg (Zc ?_)))
 refine Za 61 J J J (Zd J J ?_)
 refine Za 62 J J J (Yh (xs := [.tmp 61]) (i := 4) J J J (H5) by1 ?_)
 refine Za 7 J J J (Zw (cs' := [_, _, _, _, _, _, _, _, _, _, _]) J Xz J J ?_); intro b7
 refine Zo J J (Zm (cs' := [_, _, _, _, _, _, _, _, _, _, _]) (i := 0) J Wk J J J J J (Uc J) J ?_)
 refine Vp (Zb (Zg (Zc ?_)))
 refine Za 63 J J J (Zy (cs' := [_, _, _, _, _, _, _, _, _, _, _]) (i := 2) J Wb J J J J ?_)
 refine Za 64 J J J (Zy (cs' := [_, _, _, _, _, _, _, _, _, _, _]) (i := 1) J Wb J J J J ?_)
 refine Za 65 J J J (Zy (cs' := [_, _, _, _, _, _, _, _, _, _, _]) (i := 0) J Wb J J J J ?_)
 refine Za 66 J J J (Ye (xs := [.tmp 63, .tmp 64, .tmp 65]) el_107 J J J J J J (Uc J) ?_)
 refine Za 67 J J J (Zf J Wv J ?_)
 refine Za 68 J J J (Zl (i := 3) J Xh J J J ?_)
 refine Za 69 J J J (Yk (ns := [0, 4, 7]) (xs := [.const (.int .i64 9), .tmp 66, .tmp 68]) J Xz J tfl_110 J J J J ?_)
 refine Zo J J (Zm (cs' := [_, _, _, _, _, _, _, _, _, _, _]) (i := 4) J Wk J J J J J (Uc J) J ?_)
 refine Vp (Zb ?_)
 refine Ya ?_
 subst hr; exact Yj (i := 4) rfl rfl rfl Wb rfl by0 (Vt _ (Vt _ (Vt _ (Vt _ (Vt _ (Vv rfl)))))) ⟨rfl, rfl⟩
theorem appsL_go {L : List Tok} {E : PS → Ex × PS} {a : Int} {f : Nat} {p : PS} {x : Ex} (h : startsP L 2 p) : appsL L E a (f + 1) p x = appsL L E a f (atomG L E p).2 (opE 5 [x, (atomG L E p).1] a) := by rw [appsL, if_pos h]
theorem appsL_end {L : List Tok} {E : PS → Ex × PS} {a : Int} {f : Nat} {p : PS} {x : Ex} (h : ¬ startsP L 2 p) : appsL L E a f p x = (x, p) := by
 cases f with
 | zero => rfl
 | succ f => rw [appsL, if_neg h]
set_option maxHeartbeats 4000000 in
set_option maxRecDepth 100000 in
theorem operand_app (b : Nat) (L : List Tok) (hL : L.length ≤ 100000) (n : Nat) (E : PS → Ex × PS) (HE : ExC b L n E) (HA : ∀ q, POk L n q → Adv L q (E q).2) (p : PS) (k : POk L n p) (h1 : ¬ isP L p kBack = true) (h2 : ¬ isP L p kLet = true) (h3 : ¬ isP L p kIf = true) (r : Ex × PS) (hr : appsL L E (nxt L p).a (L.length + 1) (atomG L E p).2 (atomG L E p).1 = r) : MCall Tryz.prog 105 [.ptr b 0] (.loc b (psC L p)) (.agg r.1.cells) (.loc b (psC L r.2)) := by
 have HN := next_c b L p
 obtain ⟨⟨tk, tt, tn, ta⟩, ht⟩ : ∃ t, nxt L p = t := ⟨_, rfl⟩
 rw [ht] at HN hr
 simp only [Tok.av] at HN hr
 have H1 := atom_c b L hL n E HE HA p k
 have k2 := (atom_adv HA k).ok k
 obtain ⟨⟨⟨zk, zs, zn, ⟨ztk, zts, ztn, ztl⟩, zks, zal, zbs, zp⟩, p2⟩, e2⟩ : ∃ r, atomG L E p = r := ⟨_, rfl⟩
 rw [e2] at H1 k2 hr
 simp only [Ex.cells, Ty.cells, List.cons_append, List.nil_append] at H1 k2 hr
 refine Zv Tryz.func105 J (by kernel_rfl) J (Uc J) ?_
 refine Yg ?_
 refine Zg (Zc ?_)
 refine Za 2 J J J (Zw (cs' := [_, _, _, _, _, _, _, _, _, _, _]) J Xz J J ?_); intro b2
 refine Vp (Zb (Zg (Zc ?_)))
 refine Za 9 J J J (Zd J J ?_)
 refine Za 10 J J J (Wp (xs := [.tmp 9]) [1] J J J (HN) by1 ?_)
 refine Za 3 J J J (Zw (cs' := [_, _, _, _]) J Wh J J ?_); intro b3
 refine Zo J J (Zm (cs' := [_, _, _, _]) (i := 0) J Xl J J J J J (Uc J) J ?_)
 refine Vp (Zb (Zg (Zg (Zc ?_))))
 refine Za 11 J J J (Zd J J ?_)
 refine Za 12 J J J (Yh (xs := [.tmp 11, .const (.string ⟨#[92]⟩)]) (i := 2) J J J (may_no hL h1) by1 ?_)
 refine Vp (Zb ?_)
 refine Zn J ?_
 refine Zt ?_
 refine Zb (Zg (Zg (Zc ?_)))
 refine Za 17 J J J (Zd J J ?_)
 refine Za 18 J J J (Yh (xs := [.tmp 17, .const (.string ⟨#[108, 101, 116]⟩)]) (i := 2) J J J (may_no hL h2) by1 ?_)
 refine Vp (Zb ?_)
 refine Zn J ?_
 refine Zt ?_
 refine Zb (Zg (Zg (Zc ?_)))
 refine Za 51 J J J (Zd J J ?_)
 refine Za 52 J J J (Yh (xs := [.tmp 51, .const (.string ⟨#[105, 102]⟩)]) (i := 2) J J J (may_no hL h3) by1 ?_)
 refine Vp (Zb ?_)
 refine Zn J ?_
 refine Zt ?_
 refine Zb (Zg (Zc ?_))
 refine Za 70 J J J (Zd J J ?_)
 refine Za 71 J J J (Yh (xs := [.tmp 70]) (i := 2) J J J (H1) by1 ?_)
 refine Za 8 J J J (Zw (cs' := [_, _, _, _, _, _, _, _, _, _, _]) J Xz J J ?_); intro b8
 refine Zo J J (Zm (cs' := [_, _, _, _, _, _, _, _, _, _, _]) (i := 0) J Wk J J J J J (Uc J) J ?_)
 refine Vp (Zb (Zg (Zz ?_)))
 apply Wc [1, 4, 5, 6, 7, 9, 10, 11, 12, 13, 14, 15, 16, 17, 18, 19, 20, 21, 22, 23, 24, 25, 26, 27, 28, 29, 30, 31, 32, 33, 34, 35, 36, 37, 38, 39, 40, 41, 42, 43, 44, 45, 46, 47, 48, 49, 50, 51, 52, 53, 54, 55, 56, 57, 58, 59, 60, 61, 62, 63, 64, 65, 66, 67, 68, 69, 70, 71, 72, 73, 74, 75, 76, 77, 78, 79, 80] (σ := PS × Nat × Ex) (fun zz => match zz with | (q, f, Ex.mk xk xs xn (Ty.mk xtk xts xtn xtl) xks xal xbs xp) => []) (fun zz => match zz with | (q, f, Ex.mk xk xs xn (Ty.mk xtk xts xtn xtl) xks xal xbs xp) => [.loc b8 [.val (.int .i64 xk), .val (.string xs), .val (.int .i64 xn), .val (.int .i64 xtk), .val (.string xts), .val (.int .i64 xtn), .seq 4 (Ty.cellss xtl), .seq 11 (Ex.cellss xks), .seq 16 (Al.cellss xal), .seq 13 (Bi.cellss xbs), .val (.int .i64 xp)], .loc b3 (Tok.mk tk tt tn ta).av, .loc b2 zEx, .loc b (psC L q)]) (fun zz => match zz with | (q, f, Ex.mk xk xs xn (Ty.mk xtk xts xtn xtl) xks xal xbs xp) => POk L n q ∧ L.length - q.at_ < f ∧ appsL L E ta f q (Ex.mk xk xs xn (Ty.mk xtk xts xtn xtl) xks xal xbs xp) = r) (fun zz => match zz with | (q, f, Ex.mk xk xs xn (Ty.mk xtk xts xtn xtl) xks xal xbs xp) => f) ((p2, L.length + 1, Ex.mk zk zs zn (Ty.mk ztk zts ztn ztl) zks zal zbs zp))
 ·repeat' (first | exact Uf | apply Ud rfl | apply Ue rfl)
 ·exact ⟨k2, by omega, hr⟩
 ·exact by4
 ·exact (Vv J)
 rintro ⟨q, f, ⟨xk, xs, xn, ⟨xtk, xts, xtn, xtl⟩, xks, xal, xbs, xp⟩⟩ hI
 try dsimp only [List.cons_append, List.nil_append] at hI ⊢
 obtain ⟨i1, i2, hu⟩ := hI
 have hq1 := i1.1
 refine Zg (Zg (Zc ?_))
 refine Za 72 J J J (Zd J J ?_)
 refine Za 73 J J J (op_callkb (xs := [.tmp 72, .const (.int .i64 2)]) [3] J J J (starts_c b L q 2) by1 ?_); intro c73 h73
 refine Vp (Zb ?_)
 rcases Zh h73 with ⟨rfl, g73⟩ | ⟨rfl, g73⟩
 ·refine Zn J (Xb (Yz (Xt (Xa (Zb (Zg (Zc ?_)))))))
  refine Za 81 J J J (Zy (cs' := [_, _, _, _, _, _, _, _, _, _, _]) (i := 0) J Wb J J J J ?_)
  refine Zo J J (Zm (cs' := [_, _, _, _, _, _, _, _, _, _, _]) (i := 2) J Wk J J J J J (Uc J) J ?_)
  refine Vp (Zb ?_)
  refine Ya ?_
  rw [appsL_end g73] at hu; subst hu; exact Yj (i := 2) rfl rfl rfl Wb rfl (Vw _) (Vt _ (Vt _ (Vt _ (Vv rfl)))) ⟨rfl, rfl⟩
 ·refine Zq J (Zt (Zb (Zz ?_)))
  obtain ⟨f, rfl⟩ : ∃ f', f = f' + 1 := ⟨f - 1, by omega⟩
  rw [appsL_go g73] at hu
  have b1 := atom_lt HA i1 g73
  have l2 := (atom_adv HA i1).ok i1
  have HA2 := atom_c b L hL n E HE HA q i1
  obtain ⟨⟨⟨wk, ws, wn, ⟨wtk, wts, wtn, wtl⟩, wks, wal, wbs, wp⟩, q2⟩, f2⟩ : ∃ r, atomG L E q = r := ⟨_, rfl⟩
  rw [f2] at HA2 hu l2 b1
  simp only [Ex.cells, Ty.cells, List.cons_append, List.nil_append] at HA2 hu l2 b1
  have l3 := l2.1
  refine Xs [0, 1, 4, 5, 2, 3, 6, 7] [2, 7] [[], [], [1], [0, 1, 2], [], [4], [0, 1, 2, 3, 4, 5], [0, 1, 2, 3, 4, 5, 6]] Wm J ?_
  refine Zx 74 (some 0) (i := 0) J J J J J (Zy (cs' := [_, _, _, _, _, _, _, _, _, _, _]) (i := 0) J Wb J J J J ⟨J, J⟩) ?_
  refine Zx 75 (none) (i := 1) J J J J J (Zd J J ⟨J, J⟩) ?_
  refine Zx 78 (none) (i := 4) J J J J J (Zf J Wv J ⟨J, J⟩) ?_
  refine Zx 79 (some 1) (i := 5) J J J J J (Zl (i := 0) J Xh J J J ⟨J, J⟩) ?_
  refine Xm 3 (i := 2) J J J J J (Yh (xs := [.tmp 75]) (i := 0) J J J (HA2) by1 ⟨_, J, ?_⟩)
  refine Zx 77 (none) (i := 3) J J J J J (Ye (xs := [.tmp 74, .tmp 76]) el_107 J J J J J J (Uc J) ⟨J, J⟩) ?_
  refine Zx 80 (none) (i := 6) J J J J J (Yk (ns := [0, 4, 7]) (xs := [.const (.int .i64 5), .tmp 77, .tmp 79]) J Xz J tfl_110 J J J J ⟨J, J⟩) ?_
  refine Xm 0 (i := 7) J J J J J (Zm (cs' := [_, _, _, _, _, _, _, _, _, _, _]) (i := 0) J Wk J J J J J (Uc J) J ⟨_, J, ?_⟩)
  show AGo _ _ _ _ _ _ _
  refine Yr ?_
  refine Yx ?_
  refine ⟨(q2, f, Ex.mk 5 kE 0 (Ty.mk 0 kE 0 []) [Ex.mk xk xs xn (Ty.mk xtk xts xtn xtl) xks xal xbs xp, Ex.mk wk ws wn (Ty.mk wtk wts wtn wtl) wks wal wbs wp] [] [] ta), ⟨l2, (by show L.length - q2.at_ < f; omega), hu⟩, Nat.lt_succ_self f, by4, (Vu _ by0 (Vs _ (Vs _ (Vv J))))⟩
theorem operand_c (b : Nat) (L : List Tok) (hL : L.length ≤ 100000) (n : Nat) (E : PS → Ex × PS) (HE : ExC b L n E) (HA : ∀ q, POk L n q → Adv L q (E q).2) (p : PS) (k : POk L n p) : MCall Tryz.prog 105 [.ptr b 0] (.loc b (psC L p)) (.agg (operandG L E p).1.cells) (.loc b (psC L (operandG L E p).2)) := by
 unfold operandG
 by_cases h1 : isP L p kBack = true
 ·rw [if_pos h1]; exact operand_lam b L hL n E HE p k h1
 by_cases h2 : isP L p kLet = true
 ·rw [if_neg h1, if_pos h2]
  by_cases h3 : isP L (stepP p) kRec = true
  ·rw [if_pos h3]; exact operand_let b L hL n E HE HA p k h1 h2 true h3 _ rfl
  ·rw [if_neg h3]; exact operand_let b L hL n E HE HA p k h1 h2 false (by simpa using h3) _ rfl
 by_cases h3 : isP L p kIf = true
 ·rw [if_neg h1, if_neg h2, if_pos h3]; exact operand_if b L hL n E HE HA p k h1 h2 h3
 ·rw [if_neg h1, if_neg h2, if_neg h3]; exact operand_app b L hL n E HE HA p k h1 h2 h3 _ rfl
end Go.Proofs.YtknodnfbaofngaaGreat
