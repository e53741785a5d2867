/- Parts of a proof: the document's declarations: classes; The logic of trees, part 20: regions whose order is drawn, and in which a new variable is made at no told place: it may be made at any time.; the document's declarations: head, ctx, instance; the document's declarations: instance; the document's declarations: given, supers; the document's check of declarations; slices.EqualFunc and tree.same, for lists of types, patterns, expressions, alternatives, binds: alike under a map.; sameness of types, patterns, expressions: tree.SameType, SamePat, Same, sameBind, and the document's; the program's declarations: IndexFunc, find, Class, Inst; entail.same, fits; the program's declarations: Class, Inst, Above; entail.same, fits; turn, none, Put, Apply of the program; the program's Above; Needs of the program; declarations that were parsed and are right; what stands above a class: the classes that can be reached; Put and Apply of the document -/
import Derived.Test.YtknodnfbaofngaaGreatKLNBack4
set_option maxRecDepth 100000
set_option maxHeartbeats 4000000
namespace Go.Proofs.YtknodnfbaofngaaGreat
open Go.RowKit
mutual
theorem hasVar_iff : ∀ t : Ty, hasVar t = true ↔ ∃ x ∈ t.all, x.kind = 1
 | .mk k s n ks => by
  rw [hasVar, Ty.all]
  by_cases h : k = 1
  ·rw [if_pos h]
   exact ⟨fun _ => ⟨_, List.mem_cons_self, h⟩, fun _ => V⟩
  rw [if_neg h, hasVars_iff ks]
  constructor
  ·rintro ⟨x, hx, hk⟩; exact ⟨x, List.mem_cons_of_mem _ hx, hk⟩
  rintro ⟨x, hx, hk⟩
  rcases List.mem_cons.1 hx with q | q
  ·subst q; exact absurd hk h
  exact ⟨x, q, hk⟩
theorem hasVars_iff : ∀ ts : List Ty, hasVars ts = true ↔ ∃ x ∈ Ty.alls ts, x.kind = 1
 | [] => by simp [hasVars, Ty.alls]
 | t :: ts => by
  rw [hasVars, Ty.alls]
  by_cases h : hasVar t = true
  ·rw [if_pos h]
   obtain ⟨x, hx, hk⟩ := (hasVar_iff t).1 h
   exact ⟨fun _ => ⟨x, List.mem_append_left _ hx, hk⟩, fun _ => V⟩
  rw [if_neg h, hasVars_iff ts]
  constructor
  ·rintro ⟨x, hx, hk⟩; exact ⟨x, List.mem_append_right _ hx, hk⟩
  rintro ⟨x, hx, hk⟩
  rcases List.mem_append.1 hx with q | q
  ·exact absurd ((hasVar_iff t).2 ⟨x, q, hk⟩) h
  exact ⟨x, q, hk⟩
end
theorem vars_none (t : Ty) : t.vars.length = 0 ↔ hasVar t = false := by
 have h1 := hasVar_iff t
 constructor
 ·intro h
  cases q : hasVar t with
  | false => rfl
  | true =>
   obtain ⟨x, hx, hk⟩ := h1.1 q
   have := (mem_foldVar x.name t.all []).2 (Or.inr ⟨x, hx, hk, rfl⟩)
   have h2 : t.vars = [] := List.eq_nil_of_length_eq_zero h
   unfold Ty.vars at h2
   rw [h2] at this; simp at this
 intro h
 cases hv : t.vars with
 | nil => rfl
 | cons s l =>
  exfalso
  have hs : s ∈ t.all.foldl addVar [] := by
   have : s ∈ t.vars := by rw [hv]; simp
   exact this
  rcases (mem_foldVar s t.all []).1 hs with q | ⟨x, hx, hk, _⟩
  ·simp at q
  rw [h1.2 ⟨x, hx, hk⟩] at h; simp at h
abbrev zF : List AV := [.val (.int .i64 0), .val (.int .i64 0)]
theorem classes_c (v : En) (hv : EnB v) : PCall Tryz.prog 58 [.agg v.cells] (faultA (classesR v)) := by
 have HR := fun vars t => Right_c v vars _ t (Nat.le_refl _)
 have HAb := fun c => (Above_c v hv.sup c).pure
 obtain ⟨r, hr⟩ : ∃ r, classesR v = r := ⟨_, rfl⟩
 rw [hr]
 obtain ⟨_, _, hcl, hcs, _, _⟩ := hv
 obtain ⟨da, cl, ins⟩ := v
 simp only [En.cl] at hcl hcs
 have hr : (if (classes1 [] cl).1 ≠ 0 then classes1 [] cl else if (classes2 (cl.map Cl.s) cl).1 ≠ 0 then classes2 (cl.map Cl.s) cl else if (classes3 (En.mk da cl ins) cl).1 ≠ 0 then classes3 (En.mk da cl ins) cl else classes4 (En.mk da cl ins) cl []) = r := hr
 simp only [En.cells] at HR HAb ⊢
 have hl := Cl.cellss_len cl
 obtain ⟨r1, hr1⟩ : ∃ r, classes1 [] cl = r := ⟨_, rfl⟩
 obtain ⟨r2, hr2⟩ : ∃ r, classes2 (cl.map Cl.s) cl = r := ⟨_, rfl⟩
 obtain ⟨r3, hr3⟩ : ∃ r, classes3 (En.mk da cl ins) cl = r := ⟨_, rfl⟩
 rw [hr1, hr2, hr3] at hr
 refine Zw Tryz.func58 V (by kernel_rfl) V (Uf V) ?_
 refine Yf (Zg (Zc (Za 1 V V V (Ys (cs' := [_, _, _]) V V V V (Za 2 V V V (Zy (cs' := [_, _]) V Vn V V ?_)))))); intro b2
 refine Vs (Zb (Zg (Zc (Za 3 V V V (Ze V V (Vs (Zb (Zg (Zg (Zc (Za 4 V V V (Ze V V (Vs (Zb (Zz (c_le (al' := [(1, .cptr [.seq 5 (Da.cellss da), .seq 6 (Cl.cellss cl), .seq 8 (In.cellss ins)]), (2, .ptr b2 0), (3, .val (.slice none 0 0)), (4, .val (.int .i64 0))]) by4 (Vt _) ?_))))))))))))))))
 refine We 9 1 ?_
 apply Wg [0, 3, 4, 16, 17, 18, 19, 20, 21, 22, 23, 24, 25, 26, 27, 28, 29, 30, 31, 32, 33, 34, 35, 36, 37, 38, 39, 40, 41, 42, 43, 44, 45, 46] (σ := Nat × List ByteArray × Value) (fun zz => match zz with | (i, met, u) => [(3, .own u 1 (strs met)), (4, .val (.int .i64 i))]) (fun zz => match zz with | (i, met, u) => [.loc b2 zF, .own 9 1 u]) (fun zz => match zz with | (i, met, u) => i ≤ cl.length ∧ classes1 met (cl.drop i) = r1 ∧ met = (cl.take i).map Cl.s) (fun zz => match zz with | (i, met, u) => cl.length - i) ((0, [], .slice none 0 0))
 ·repeat' (first | exact Ui | apply Ug rfl | apply Uh rfl)
 ·exact ⟨Nat.zero_le _, hr1, V⟩
 ·exact Uc V (Le.nilOwn 1) (Uc V (Vz _) (SLe.nil _))
 ·exact (Vy V)
 rintro ⟨i, met, u⟩ hI
 try dsimp only [List.cons_append, List.nil_append] at hI ⊢
 obtain ⟨h1, hu, hm⟩ := hI
 have hle : (strs met).length ≤ 100000 := by rw [Xt, hm, List.length_map, List.length_take]; omega
 refine Zg (Zg (Zc (Za 16 V V V (Zd V V (Za 17 V V V (Zj V Wi V V (Za 18 V V V (Zo V Vm V V ?_))))))))
 refine Za 19 V V V (Yy V tu_35 V (.seq _ _) (fun n19 => ?_))
 refine Za 20 V V V (Yu V V V ?_); intro c20 h20
 refine Vs (Zb ?_)
 rcases Zi h20 with ⟨rfl, g20⟩ | ⟨rfl, g20⟩
 ·refine Zr V (Xc (Xe (Xv (Xd (Zb (Zg (Zg ?_)))))))
  rw [Ul (by omega), classes1] at hu
  rw [← hu, if_neg (by simp [f0])] at hr
  rw [List.take_of_length_le (by omega)] at hm
  rw [← hm] at hr2
  refine Zc (Za 5 V V V (Ze V V (Vs (Zb (Zz (c_le (al' := [(1, .cptr [.seq 5 (Da.cellss da), .seq 6 (Cl.cellss cl), .seq 8 (In.cellss ins)]), (2, .ptr b2 0), (3, .seq 1 (strs met)), (5, .val (.int .i64 0))]) by4 (Vt _) ?_))))))
  apply Xm [0, 4, 5, 6, 7, 16, 17, 18, 19, 20, 21, 22, 23, 24, 25, 26, 27, 28, 29, 30, 31, 32, 33, 34, 35, 36, 37, 38, 39, 40, 41, 42, 43, 44, 45, 46, 47, 48, 49, 50, 51, 52, 53, 54, 55, 56, 57, 58, 59, 60, 61, 62, 63, 64, 65, 66, 67, 68, 69, 70, 71, 72, 73, 74, 75, 76, 77, 78, 79, 80, 81, 82, 83, 84, 85, 86, 87, 88, 89] (σ := Nat) (fun zz => match zz with | i2 => [(5, .val (.int .i64 i2))]) (fun zz => match zz with | i2 => i2 ≤ cl.length ∧ classes2 met (cl.drop i2) = r2) (fun zz => match zz with | i2 => cl.length - i2) (0)
  ·repeat' (first | exact Ui | apply Ug rfl | apply Uh rfl)
  ·exact ⟨Nat.zero_le _, hr2⟩
  ·exact by4
  rintro i2 hI
  try dsimp only [List.cons_append, List.nil_append] at hI ⊢
  obtain ⟨j1, hw⟩ := hI
  refine Zg (Zg (Zc (Za 47 V V V (Zd V V (Za 48 V V V (Zj V Wi V V (Za 49 V V V (Zo V Vm V V ?_))))))))
  refine Za 50 V V V (Yy V tu_35 V (.seq _ _) (fun n50 => ?_))
  refine Za 51 V V V (Yu V V V ?_); intro c51 h51
  refine Vs (Zb ?_)
  rcases Zi h51 with ⟨rfl, g51⟩ | ⟨rfl, g51⟩
  ·refine Zr V (Xc (Xe (Xv (Xd (Zb (Zg (Zg ?_)))))))
   rw [Ul (by omega), classes2] at hw
   rw [← hw, if_neg (by simp [f0])] at hr
   refine Zc (Za 8 V V V (Ze V V (Vs (Zb (Zz (c_le (al' := [(1, .cptr [.seq 5 (Da.cellss da), .seq 6 (Cl.cellss cl), .seq 8 (In.cellss ins)]), (2, .ptr b2 0), (8, .val (.int .i64 0))]) by4 (Vt _) ?_))))))
   apply Xm [0, 3, 4, 5, 6, 7, 8, 16, 17, 18, 19, 20, 21, 22, 23, 24, 25, 26, 27, 28, 29, 30, 31, 32, 33, 34, 35, 36, 37, 38, 39, 40, 41, 42, 43, 44, 45, 46, 47, 48, 49, 50, 51, 52, 53, 54, 55, 56, 57, 58, 60, 61, 62, 63, 64, 65, 66, 67, 68, 69, 70, 71, 72, 73, 74, 75, 76, 77, 78, 79, 80, 81, 82, 83, 84, 85, 86, 87, 88, 89, 90, 91, 92, 93, 94, 95, 96, 97, 98, 99, 100, 101, 102, 103, 104, 105, 106, 107, 108, 109, 110, 111, 112, 113, 114, 115, 116, 117, 118] (σ := Nat) (fun zz => match zz with | i3 => [(8, .val (.int .i64 i3))]) (fun zz => match zz with | i3 => i3 ≤ cl.length ∧ classes3 (En.mk da cl ins) (cl.drop i3) = r3) (fun zz => match zz with | i3 => cl.length - i3) (0)
   ·repeat' (first | exact Ui | apply Ug rfl | apply Uh rfl)
   ·exact ⟨Nat.zero_le _, hr3⟩
   ·exact by4
   rintro i3 hI
   try dsimp only [List.cons_append, List.nil_append] at hI ⊢
   obtain ⟨k1, ht⟩ := hI
   refine Zg (Zg (Zc (Za 90 V V V (Zd V V (Za 91 V V V (Zj V Wi V V (Za 92 V V V (Zo V Vm V V ?_))))))))
   refine Za 93 V V V (Yy V tu_35 V (.seq _ _) (fun n93 => ?_))
   refine Za 94 V V V (Yu V V V ?_); intro c94 h94
   refine Vs (Zb ?_)
   rcases Zi h94 with ⟨rfl, g94⟩ | ⟨rfl, g94⟩
   ·refine Zr V (Xc (Xe (Xv (Xd (Zb (Zg ?_))))))
    rw [Ul (by omega), classes3] at ht
    rw [← ht, if_neg (by simp [f0])] at hr
    refine Zc (Za 9 V V V (Ze V V (Vs (Zb (Zg (Zg (Zc (Za 10 V V V (Ze V V (Vs (Zb (Zz (c_le (al' := [(1, .cptr [.seq 5 (Da.cellss da), .seq 6 (Cl.cellss cl), .seq 8 (In.cellss ins)]), (2, .ptr b2 0), (9, .val (.slice none 0 0)), (10, .val (.int .i64 0))]) by4 (M' := [.loc b2 zF]) (Vv _ (Vu _)) ?_)))))))))))))
    refine We 9 1 ?_
    apply Wg [0, 3, 4, 5, 6, 7, 8, 9, 10, 11, 12, 13, 14, 15, 16, 17, 18, 19, 20, 21, 22, 23, 24, 25, 26, 27, 28, 29, 30, 31, 32, 33, 34, 35, 36, 37, 38, 39, 40, 41, 42, 43, 44, 45, 46, 47, 48, 49, 50, 51, 52, 53, 54, 55, 56, 57, 58, 60, 61, 62, 63, 64, 65, 66, 67, 68, 69, 70, 71, 72, 73, 74, 75, 76, 77, 78, 79, 80, 81, 82, 83, 84, 85, 86, 87, 88, 89, 90, 91, 92, 93, 94, 95, 96, 97, 98, 99, 100, 101, 102, 103, 104, 105, 106, 107, 108, 109, 110, 111, 112, 113, 114, 115, 116, 117, 118, 119, 120, 121, 122, 123, 124, 125, 126, 127, 128, 129, 130, 131, 132, 133, 134, 135, 136, 137, 138, 139, 140, 141, 142, 143, 144, 145, 146, 147, 148, 149, 150, 151, 152, 153, 154, 155, 156, 157, 158, 159, 160, 161, 162, 163, 164, 165, 166, 167, 168, 169, 170, 171, 172, 173, 174, 175, 176, 177, 178, 179, 180, 181, 182, 183, 184] (σ := Nat × List ByteArray × Value) (fun zz => match zz with | (i4, kn, w) => [(9, .own w 1 (strs kn)), (10, .val (.int .i64 i4))]) (fun zz => match zz with | (i4, kn, w) => [.loc b2 zF, .own 9 1 w]) (fun zz => match zz with | (i4, kn, w) => i4 ≤ cl.length ∧ classes4 (En.mk da cl ins) (cl.drop i4) kn = r ∧ kn.length ≤ 100000 * i4) (fun zz => match zz with | (i4, kn, w) => cl.length - i4) ((0, [], .slice none 0 0))
    ·repeat' (first | exact Ui | apply Ug rfl | apply Uh rfl)
    ·exact ⟨Nat.zero_le _, hr, Nat.zero_le _⟩
    ·exact Uc V (Le.nilOwn 1) (Uc V (Vz _) (SLe.nil _))
    ·exact (Vy V)
    rintro ⟨i4, kn, w⟩ hI
    try dsimp only [List.cons_append, List.nil_append] at hI ⊢
    obtain ⟨a1, ha, a3⟩ := hI
    refine Zg (Zg (Zc (Za 119 V V V (Zd V V (Za 120 V V V (Zj V Wi V V (Za 121 V V V (Zo V Vm V V ?_))))))))
    refine Za 122 V V V (Yy V tu_35 V (.seq _ _) (fun n122 => ?_))
    refine Za 123 V V V (Yu V V V ?_); intro c123 h123
    refine Vs (Zb ?_)
    rcases Zi h123 with ⟨rfl, g123⟩ | ⟨rfl, g123⟩
    ·refine Zr V (Xc (Xe (Xv (Xd (Zb (Zg (Zc (Za 185 V V V (Yl (ns := []) (xs := []) V Vn V Vj V V V V (Zs V V (Zq (cs' := [_, _]) (i := 0) V Vi V V V V V (Uf V) V (Vs (Zb (Ya ?_))))))))))))))
     rw [Ul (by omega), classes4] at ha; subst ha; exact Yn (i := 0) rfl rfl rfl Ve rfl (Vz _) (Vu _) ⟨rfl, rfl⟩
    refine Zt V (Zv (Zb (Zg (Zz (Zg ?_)))))
    obtain ⟨⟨xs, xv, xsu, xms, xds, xp⟩, hxx⟩ := Yw (l := cl) (i := i4) by7
    have hcx := Cl.cellss_get hxx
    have hmx := Uk hxx
    rw [Xp hxx, classes4] at ha
    obtain ⟨_, hms, hds, hmt⟩ := hcs _ hmx
    have hms : xms.length ≤ 100000 := hms
    have hds : xds.length ≤ 100000 := hds
    have hmt : ∀ m ∈ xms, m.t.size ≤ 1000000 := hmt
    have HB := binds_c xds (Cl.mk xs xv xsu xms xds xp) (by omega) (show xms.length ≤ 1000000 by omega)
    have HB : PCall Tryz.prog 89 [.seq 13 (Bi.cellss xds), .agg (Cl.mk xs xv xsu xms xds xp).cells] (faultA (bndR (xms.map Me.s) [] xds)) := HB
    have ha : (if (methR (En.mk da cl ins) xv xms kn).1.1 ≠ 0 then (methR (En.mk da cl ins) xv xms kn).1 else if (bndR (xms.map Me.s) [] xds).1 ≠ 0 then bndR (xms.map Me.s) [] xds else classes4 (En.mk da cl ins) (cl.drop (i4 + 1)) (methR (En.mk da cl ins) xv xms kn).2) = r := ha
    obtain ⟨⟨mf, mk⟩, hmr⟩ : ∃ b, methR (En.mk da cl ins) xv xms kn = b := ⟨_, rfl⟩
    rw [hmr] at ha
    obtain ⟨⟨fe, fa⟩, hbr⟩ : ∃ b, bndR (xms.map Me.s) [] xds = b := ⟨_, rfl⟩
    rw [hbr] at ha HB
    simp only [] at ha
    simp only [faultA, Cl.cells] at HB
    have hlm := Me.cellss_len xms
    refine Zc (Za 126 V V V (Zj V Wi V V (Za 127 V V V (Zo V Vm V V (Za 128 V V V (Zd V V (Za 129 V V V (Yd V te_35 V (.seq _ _) V V (hcx) (Za 130 V V V (Yc (cs' := [_, _, _, _, _, _]) V ta_77 V V V (Za 11 V V V (Zy (cs' := [_, _, _, _, _, _]) V tz_77 V V ?_)))))))))))); intro b11
    refine Zs V V (Zq (cs' := [_, _, _, _, _, _]) (i := 0) V ts_77 V V V V V (Uf V) V (Vs (Zb (Zg (Zg (Zc (Za 12 V V V (Ze V V (Vs (Zb (Zz (c_le (al' := [(1, .cptr [.seq 5 (Da.cellss da), .seq 6 (Cl.cellss cl), .seq 8 (In.cellss ins)]), (2, .ptr b2 0), (9, .own w 1 (strs kn)), (10, .val (.int .i64 i4)), (11, .ptr b11 0), (12, .val (.int .i64 0))]) by4 (Vt _) ?_))))))))))))
    apply Wg [0, 3, 4, 5, 6, 7, 8, 9, 12, 13, 14, 16, 17, 18, 19, 20, 21, 22, 23, 24, 25, 26, 27, 28, 29, 30, 31, 32, 33, 34, 35, 36, 37, 38, 39, 40, 41, 42, 43, 44, 45, 46, 47, 48, 49, 50, 51, 52, 53, 54, 55, 56, 57, 58, 60, 61, 62, 63, 64, 65, 66, 67, 68, 69, 70, 71, 72, 73, 74, 75, 76, 77, 78, 79, 80, 81, 82, 83, 84, 85, 86, 87, 88, 89, 90, 91, 92, 93, 94, 95, 96, 97, 98, 99, 100, 101, 102, 103, 104, 105, 106, 107, 108, 109, 110, 111, 112, 113, 114, 115, 116, 117, 118, 131, 132, 133, 134, 135, 136, 137, 138, 139, 140, 141, 142, 143, 144, 145, 146, 147, 148, 149, 150, 151, 152, 153, 154, 155, 156, 157, 158, 159, 160, 161, 162, 163, 164, 165, 166, 167, 168, 169, 170, 171, 172, 173, 174, 175, 176] (σ := Nat × List ByteArray × Value) (fun zz => match zz with | (k, m, w2) => [(9, .own w2 1 (strs m)), (12, .val (.int .i64 k))]) (fun zz => match zz with | (k, m, w2) => [.loc b11 [.val (.string xs), .val (.string xv), .seq 1 (strs xsu), .seq 6 (Me.cellss xms), .seq 13 (Bi.cellss xds), .val (.int .i64 xp)], .loc b2 zF, .own 9 1 w2]) (fun zz => match zz with | (k, m, w2) => k ≤ xms.length ∧ methR (En.mk da cl ins) xv (xms.drop k) m = (mf, mk) ∧ m.length ≤ 100000 * i4 + k) (fun zz => match zz with | (k, m, w2) => xms.length - k) ((0, kn, w))
    ·repeat' (first | exact Ui | apply Ug rfl | apply Uh rfl)
    ·exact ⟨Nat.zero_le _, hmr, by show kn.length ≤ 100000 * i4 + 0; omega⟩
    ·exact by4
    ·exact (Vy V)
    rintro ⟨k, m, w2⟩ hI
    try dsimp only [List.cons_append, List.nil_append] at hI ⊢
    obtain ⟨b1, hb, b3⟩ := hI
    have hle : (strs m).length ≤ 20000000000 := by rw [Xt]; omega
    refine Zg (Zg (Zc (Za 131 V V V (Zd V V (Za 132 V V V (Zh V tf_77_3 V (Za 133 V V V (Zp (i := 0) V ta_75 V V V ?_))))))))
    refine Za 134 V V V (Yy V tu_75 V (.seq _ _) (fun n134 => ?_))
    refine Za 135 V V V (Yu V V V ?_); intro c135 h135
    refine Vs (Zb ?_)
    rcases Zi h135 with ⟨rfl, g135⟩ | ⟨rfl, g135⟩
    ·refine Zr V (Xc (Xe (Xv (Xd (Zb (Zg ?_))))))
     rw [Ul (by omega), methR] at hb
     cases hb
     rw [if_neg (by simp [f0])] at ha
     refine Zc (Za 177 V V V (Zh V tf_77_4 V (Za 178 V V V (Zp (i := 0) V ta_53 V V V (Za 179 V V V (Zx (cs' := [_, _, _, _, _, _]) (i := 0) V ta_77 V V V V (Za 180 V V V (Ym (xs := [.tmp 178, .tmp 179]) V V (HB) by1 ?_))))))))
     refine Za 15 V V V (Zy (cs' := [_, _]) V Vn V V ?_); intro b15
     refine Zs V V (Zq (cs' := [_, _]) (i := 0) V Vi V V V V V (Uf V) V (Vs (Zb (Zg (Zc (Za 181 V V V (Zh V tf_59_0 V (Za 182 V V V (Zp (i := 0) V Xa V V V (Za 183 V V V (Xq V V V ?_))))))))))); intro c183 h183
     refine Vs (Zb ?_)
     rcases Zi h183 with ⟨rfl, g183⟩ | ⟨rfl, g183⟩
     ·refine Zr V (Zv (Yt (Zb (Zc (Za 124 V V V (Zd V V (Za 125 V V V (Yx V V V (Uj _ (by omega)) ?_))))))))
      refine Za 10 V V V (Ze V V (Vs (Yz ?_)))
      rw [if_neg g183] at ha; exact ⟨(i4 + 1, mk, w2), ⟨by show i4 + 1 ≤ cl.length; omega, ha, by show mk.length ≤ 100000 * (i4 + 1); omega⟩, by show cl.length - (i4 + 1) < cl.length - i4; omega, by4, (Vw _ (Vw _ (Vy rfl)))⟩
     refine Zt V (Zg (Zc (Za 184 V V V (Zx (cs' := [_, _]) (i := 0) V Ve V V V V (Zs V V (Zq (cs' := [_, _]) (i := 2) V Vi V V V V V (Uf V) V (Vs (Zb (Ya ?_)))))))))
     rw [if_pos g183] at ha; subst ha; exact Yn (i := 2) rfl rfl rfl Ve rfl (Vz _) (Vu _) ⟨rfl, rfl⟩
    refine Zt V (Zv (Zb (Zg (Zz (Zg ?_)))))
    obtain ⟨⟨ys, ⟨ytk, yts, ytn, ytl⟩, yp⟩, hxy⟩ := Yw (l := xms) (i := k) by7
    have hcy := Me.cellss_get hxy
    have hmy := Uk hxy
    rw [Xp hxy, methR] at hb
    have hsz : (Ty.mk ytk yts ytn ytl).size ≤ 1000000 := hmt _ hmy
    have hb : (if hasB m ys = true then (((120 : Int), yp), m) else if methE (En.mk da cl ins) xv (Ty.mk ytk yts ytn ytl) ≠ 0 then ((methE (En.mk da cl ins) xv (Ty.mk ytk yts ytn ytl), yp), m ++ [ys]) else methR (En.mk da cl ins) xv (xms.drop (k + 1)) (m ++ [ys])) = (mf, mk) := hb
    have HRt := HR [xv] (Ty.mk ytk yts ytn ytl)
    have HVs := (rVars_c (Ty.mk ytk yts ytn ytl) hsz).pure
    have hvn := vars_none (Ty.mk ytk yts ytn ytl)
    obtain ⟨me, hme⟩ : ∃ e, methE (En.mk da cl ins) xv (Ty.mk ytk yts ytn ytl) = e := ⟨_, rfl⟩
    rw [hme] at hb
    unfold methE at hme
    obtain ⟨e, he⟩ : ∃ e, rightR (En.mk da cl ins) [xv] (Ty.mk ytk yts ytn ytl) = e := ⟨_, rfl⟩
    rw [he] at HRt hme
    obtain ⟨vs, hvs⟩ : ∃ l, (Ty.mk ytk yts ytn ytl).vars = l := ⟨_, rfl⟩
    rw [hvs] at HVs hvn
    have hlv := Xt vs
    simp only [Ty.cells] at HRt HVs
    simp only [Me.cells, Ty.cells, List.cons_append, List.nil_append] at hcy
    refine Zc (Za 138 V V V (Zh V tf_77_3 V (Za 139 V V V (Zp (i := 0) V ta_75 V V V (Za 140 V V V (Zd V V (Za 141 V V V (Yd V te_75 V (.seq _ _) V V (hcy) (Za 142 V V V (Yc (cs' := [_, _, _, _, _, _]) V ta_145 V V V (Za 13 V V V (Zy (cs' := [_, _, _, _, _, _]) V tz_145 V V ?_)))))))))))); intro b13
    refine Zs V V (Zq (cs' := [_, _, _, _, _, _]) (i := 0) V ts_145 V V V V V (Uf V) V (Vs (Zb (Zg (Zg (Zc (Za 143 V V V (Zd V V (Za 144 V V V (Zh V tf_145_0 V (Za 145 V V V (Zp (i := 0) V Xb V V V (Za 146 V V V (Yg (xs := [.tmp 143, .tmp 145]) V V (Has_c m ys) by1 ?_)))))))))))))); intro c146 h146
    refine Vs (Zb ?_)
    rcases Zi h146 with ⟨rfl, g146⟩ | ⟨rfl, g146⟩
    ·refine Zr V (Zv (Zb (Zg ?_)))
     rw [if_neg (by rw [hasB_no g146]; simp)] at hb
     refine Zc (Za 150 V V V (Zd V V (Za 151 V V V (Zh V tf_145_0 V (Za 152 V V V (Zp (i := 0) V Xb V V V (Za 153 V V V (Ye (xs := [.tmp 152]) el_68 V V V V V V (Uf V) (Za 154 V V V (Xj (i := 3) el_68 V V V V (.seq _ _) by6 ?_))))))))))
     intro u154
     refine Za 9 V V V (Ze V V (Vs (Zb (Zg (Zc (Za 155 V V V (Yc (cs' := [_, _, _]) V Xw V V V (Za 156 V V V (Zh V tf_77_1 V (Za 157 V V V (Zp (i := 1) V Xb V V V (Za 158 V V V (Ye (xs := [.tmp 157]) el_68 V V V V V V (Uf V) (Za 159 V V V (Zh V tf_145_1 V (Za 160 V V V (Zx (cs' := [_, _, _, _]) (i := 0) V Xz V V V V (Za 161 V V V (Ym (xs := [.tmp 155, .tmp 158, .tmp 160]) V V (HRt) by1 ?_)))))))))))))))))))
     refine Za 14 V V V (Ze V V (Vs (Zb (Zg (Zg (Xl 170 (e = 0 ∧ vs.length = 0) ?_ _ _ V ?_))))))
     ·skip
      refine Za 162 V V V (Zd V V (Za 163 V V V (Yr V V V ?_))); intro c163 h163
      refine Za 164 V V V (Zd V V ?_)
      rcases Zi h163 with ⟨rfl, g163⟩ | ⟨rfl, g163⟩
      ·skip
       refine Zk 165 V V V V V (Zk 166 V V V V V (Zk 167 V V V V V (Zk 168 V V V V V (Zk 169 V V V V V (Za 170 V V V (Zn V V V (Vs (Ud V ?_ by5 by3))))))))
       clear HRt HVs HR HAb HB; first | (simp_all; done) | (simp_all; omega) | grind
      skip
      refine Zl 165 V V V V V (Zh V tf_145_1 V (Zl 166 V V V V V (Zx (cs' := [_, _, _, _]) (i := 0) V Xz V V V V (Zl 167 V V V V V (Ym (xs := [.tmp 166]) V V (HVs) by1 ?_)))))
      refine Zl 168 V V V V V (Yy V tu_68 V (.seq _ _) (fun n168 => ?_))
      refine Zl 169 V V V V V (Yr V V V ?_); intro c169 h169
      refine Za 170 V V V (Zn V V V (Vs (Ud V ?_ by5 by3)))
      clear HRt HVs HR HAb HB; first | (simp_all; done) | (simp_all; omega) | grind
     intro c170 h170
     refine Zb ?_
     refine c_le (al' := [(1, .cptr [.seq 5 (Da.cellss da), .seq 6 (Cl.cellss cl), .seq 8 (In.cellss ins)]), (2, .ptr b2 0), (9, .own u154 1 (strs (m ++ [ys]))), (10, .val (.int .i64 i4)), (11, .ptr b11 0), (12, .val (.int .i64 k)), (13, .ptr b13 0), (14, .val (.int .i64 e)), (170, .val (.bool c170))]) (Uc V (Vz _) (Uc V (Vz _) (Uc V (Ue (by rw [strs_app]; rfl)) by4))) (Vt _) ?_
     apply c_joinkm [0, 3, 4, 5, 6, 7, 8, 14, 16, 17, 18, 19, 20, 21, 22, 23, 24, 25, 26, 27, 28, 29, 30, 31, 32, 33, 34, 35, 36, 37, 38, 39, 40, 41, 42, 43, 44, 45, 46, 47, 48, 49, 50, 51, 52, 53, 54, 55, 56, 57, 58, 60, 61, 62, 63, 64, 65, 66, 67, 68, 69, 70, 71, 72, 73, 74, 75, 76, 77, 78, 79, 80, 81, 82, 83, 84, 85, 86, 87, 88, 89, 90, 91, 92, 93, 94, 95, 96, 97, 98, 99, 100, 101, 102, 103, 104, 105, 106, 107, 108, 109, 110, 111, 112, 113, 114, 115, 116, 117, 118] (σ := Unit) (fun zz => match zz with | z => [(14, .val (.int .i64 me))]) (fun zz => match zz with | z => True)
     ·repeat' (first | exact Ui | apply Ug rfl | apply Uh rfl)
     ·skip
      rcases Zi h170 with ⟨rfl, g170⟩ | ⟨rfl, g170⟩
      ·refine Zr V (Zv (Yz ?_))
       first
       | (rw [if_pos ⟨g170.1, hvn.1 g170.2⟩] at hme; exact ⟨(), trivial, Uc rfl (Le.inteq hme) by4, by3⟩)
       | (rw [if_neg (fun q => g170 ⟨q.1, hvn.2 q.2⟩)] at hme; exact ⟨(), trivial, Uc rfl (Le.inteq hme) by4, by3⟩)
      refine Zt V (Zc (Za 14 V V V (Ze V V (Vs (Yz ?_)))))
      first
      | (rw [if_pos ⟨g170.1, hvn.1 g170.2⟩] at hme; exact ⟨(), trivial, Uc rfl (Le.inteq hme) by4, by3⟩)
      | (rw [if_neg (fun q => g170 ⟨q.1, hvn.2 q.2⟩)] at hme; exact ⟨(), trivial, Uc rfl (Le.inteq hme) by4, by3⟩)
     rintro z hI
     try dsimp only [List.cons_append, List.nil_append] at hI ⊢
     refine Zb (Zg (Zc (Za 171 V V V (Zd V V (Za 172 V V V (Xq V V V ?_)))))); intro c172 h172
     refine Vs (Zb ?_)
     rcases Zi h172 with ⟨rfl, g172⟩ | ⟨rfl, g172⟩
     ·refine Zr V (Zv (Yt (Zb (Zc (Za 136 V V V (Zd V V (Za 137 V V V (Yx V V V (Uj _ (by omega)) ?_))))))))
      refine Za 12 V V V (Ze V V (Vs (Yz ?_)))
      rw [if_neg g172] at hb; exact ⟨(k + 1, m ++ [ys], u154), ⟨by show k + 1 ≤ xms.length; omega, hb, by show (m ++ [ys]).length ≤ 100000 * i4 + (k + 1); simp; omega⟩, by show xms.length - (k + 1) < xms.length - k; omega, by4, (Vw _ (Vy rfl))⟩
     refine Zt V (Zg (Zc (Za 173 V V V (Zd V V (Za 174 V V V (Zh V tf_145_2 V (Za 175 V V V (Zp (i := 0) V Xa V V V (Za 176 V V V (Yl (ns := [0, 1]) (xs := [.tmp 173, .tmp 175]) V Vn V Vj V V V V (Zs V V (Zq (cs' := [_, _]) (i := 2) V Vi V V V V V (Uf V) V (Vs (Zb (Ya ?_)))))))))))))))
     rw [if_pos g172] at hb; cases hb; rw [if_pos g172] at ha; subst ha; exact Yn (i := 2) rfl rfl rfl Ve rfl (Vz _) (Vu _) ⟨rfl, rfl⟩
    refine Zt V (Zg (Zc (Za 147 V V V (Zh V tf_145_2 V (Za 148 V V V (Zp (i := 0) V Xa V V V (Za 149 V V V (Yl (ns := [0, 1]) (xs := [.const (.int .i64 120), .tmp 148]) V Vn V Vj V V V V (Zs V V (Zq (cs' := [_, _]) (i := 2) V Vi V V V V V (Uf V) V (Vs (Zb (Ya ?_)))))))))))))
    rw [if_pos (hasB_iff.2 g146)] at hb; cases hb; rw [if_pos (by simp)] at ha; subst ha; exact Yn (i := 2) rfl rfl rfl Ve rfl (Vz _) (Vu _) ⟨rfl, rfl⟩
   refine Zt V (Zv (Zb (Zg (Zz (Zg ?_)))))
   obtain ⟨⟨xs, xv, xsu, xms, xds, xp⟩, hxx⟩ := Yw (l := cl) (i := i3) by7
   have hcx := Cl.cellss_get hxx
   have hmx := Uk hxx
   rw [Xp hxx, classes3] at ht
   have ht : (if hasB (aboveR (En.mk da cl ins) xs) xs = true then ((124 : Int), xp) else classes3 (En.mk da cl ins) (cl.drop (i3 + 1))) = r3 := ht
   refine Vl Wo V (Zm 97 V V (Yc (cs' := [_, _, _]) V Xw V V V ⟨V, V⟩) ?_)
   refine Zm 98 V V (Zj V Wi V V ⟨V, V⟩) ?_
   refine Zm 99 V V (Zo V Vm V V ⟨V, V⟩) ?_
   refine Zm 100 V V (Zd V V ⟨V, V⟩) ?_
   refine Zm 101 V V (Yd V te_35 V (.seq _ _) V V (hcx) ⟨V, V⟩) ?_
   refine Zm 102 V V (Zj V tf_77_0 V V ⟨V, V⟩) ?_
   refine Zm 103 V V (Zo V Xb V V ⟨V, V⟩) ?_
   refine Zm 104 V V (Ym (xs := [.tmp 97, .tmp 103]) V V (HAb xs) by1 ⟨V, V⟩) ?_
   refine Zm 105 V V (Zj V Wi V V ⟨V, V⟩) ?_
   refine Zm 106 V V (Zo V Vm V V ⟨V, V⟩) ?_
   refine Zm 107 V V (Zd V V ⟨V, V⟩) ?_
   refine Zm 108 V V (Yd V te_35 V (.seq _ _) V V (hcx) ⟨V, V⟩) ?_
   refine Zm 109 V V (Zj V tf_77_0 V V ⟨V, V⟩) ?_
   refine Zm 110 V V (Zo V Xb V V ⟨V, V⟩) ?_
   refine Wd 111 V V (fun _ q => Yg (xs := [.tmp 104, .tmp 110]) V V (Has_c (aboveR (En.mk da cl ins) xs) xs) by1 q) ?_; intro c111 h111
   show AGo _ _ _ _ _ _ _
   refine Zb ?_
   rcases Zi h111 with ⟨rfl, g111⟩ | ⟨rfl, g111⟩
   ·refine Zr V (Zv (Yt (Zb (Zc (Za 95 V V V (Zd V V (Za 96 V V V (Yx V V V (Uj _ (by omega)) ?_))))))))
    refine Za 8 V V V (Ze V V (Vs (Yz ?_)))
    rw [if_neg (by rw [hasB_no g111]; simp)] at ht; exact ⟨i3 + 1, ⟨by omega, ht⟩, by show cl.length - (i3 + 1) < cl.length - i3; omega, by4, by3⟩
   refine Zt V (Zg (Zc (Za 112 V V V (Zj V Wi V V (Za 113 V V V (Zo V Vm V V (Za 114 V V V (Zd V V (Za 115 V V V (Yd V te_35 V (.seq _ _) V V (hcx) (Za 116 V V V (Zj V tf_77_5 V V (Za 117 V V V (Zo V Xa V V (Za 118 V V V (Yl (ns := [0, 1]) (xs := [.const (.int .i64 124), .tmp 117]) V Vn V Vj V V V V (Zs V V (Zq (cs' := [_, _]) (i := 0) V Vi V V V V V (Uf V) V (Vs (Zb (Ya ?_)))))))))))))))))))))
   rw [if_pos (hasB_iff.2 g111)] at ht; subst ht; rw [if_pos (by simp)] at hr; subst hr; exact Yn (i := 0) rfl rfl rfl Ve rfl (Vz _) (Vu _) ⟨rfl, rfl⟩
  refine Zt V (Zv (Zb (Zg (Zz (Zg ?_)))))
  obtain ⟨⟨xs, xv, xsu, xms, xds, xp⟩, hxx⟩ := Yw (l := cl) (i := i2) by7
  have hcx := Cl.cellss_get hxx
  have hmx := Uk hxx
  rw [Xp hxx, classes2] at hw
  obtain ⟨hsu, _⟩ := hcs _ hmx
  have hw : (if supR met [] xsu ≠ 0 then (supR met [] xsu, xp) else classes2 met (cl.drop (i2 + 1))) = r2 := hw
  have hlsu := Xt xsu
  have hsu : xsu.length ≤ 100000 := hsu
  obtain ⟨e, he⟩ : ∃ e, supR met [] xsu = e := ⟨_, rfl⟩
  rw [he] at hw
  refine Zc (Za 54 V V V (Zj V Wi V V (Za 55 V V V (Zo V Vm V V (Za 56 V V V (Zd V V (Za 57 V V V (Yd V te_35 V (.seq _ _) V V (hcx) (Za 58 V V V (Yc (cs' := [_, _, _, _, _, _]) V ta_77 V V V (Za 6 V V V (Zy (cs' := [_, _, _, _, _, _]) V tz_77 V V ?_)))))))))))); intro b6
  refine Zs V V (Zq (cs' := [_, _, _, _, _, _]) (i := 0) V ts_77 V V V V V (Uf V) V (Vs (Zb (Zg (Zc (Za 7 V V V (Ze V V (Vs (Zb (Zz (c_le (al' := [(1, .cptr [.seq 5 (Da.cellss da), .seq 6 (Cl.cellss cl), .seq 8 (In.cellss ins)]), (2, .ptr b2 0), (3, .seq 1 (strs met)), (5, .val (.int .i64 i2)), (6, .ptr b6 0), (7, .val (.int .i64 0))]) by4 (Vt _) ?_)))))))))))
  apply Xm [0, 4, 7, 16, 17, 18, 19, 20, 21, 22, 23, 24, 25, 26, 27, 28, 29, 30, 31, 32, 33, 34, 35, 36, 37, 38, 39, 40, 41, 42, 43, 44, 45, 46, 59, 60, 61, 62, 63, 64, 65, 66, 67, 68, 69, 70, 71, 72, 73, 74, 75, 76, 77, 78, 79, 80, 81, 82, 83, 84, 85, 86, 87, 88, 89] (σ := Nat) (fun zz => match zz with | k => [(7, .val (.int .i64 k))]) (fun zz => match zz with | k => k ≤ xsu.length ∧ supR met (xsu.take k) (xsu.drop k) = e) (fun zz => match zz with | k => xsu.length - k) (0)
  ·repeat' (first | exact Ui | apply Ug rfl | apply Uh rfl)
  ·exact ⟨Nat.zero_le _, he⟩
  ·exact by4
  rintro k hI
  try dsimp only [List.cons_append, List.nil_append] at hI ⊢
  obtain ⟨k1, hk⟩ := hI
  refine Zg (Zg (Zc (Za 59 V V V (Zd V V (Za 60 V V V (Zh V tf_77_2 V (Za 61 V V V (Zp (i := 0) V ta_68 V V V ?_))))))))
  refine Za 62 V V V (Yy V tu_68 V (.seq _ _) (fun n62 => ?_))
  refine Za 63 V V V (Yu V V V ?_); intro c63 h63
  refine Vs (Zb ?_)
  rcases Zi h63 with ⟨rfl, g63⟩ | ⟨rfl, g63⟩
  ·refine Zr V (Xc (Xe (Xv (Xd (Yt (Zb (Zc (Za 52 V V V (Zd V V (Za 53 V V V (Yx V V V (Uj _ (by omega)) ?_)))))))))))
   refine Za 5 V V V (Ze V V (Vs (Yz ?_)))
   rw [Ul (by omega), supR] at hk
   rw [if_neg (by omega)] at hw
   exact ⟨i2 + 1, ⟨by omega, hw⟩, by show cl.length - (i2 + 1) < cl.length - i2; omega, by4, (Vw _ (Vt _))⟩
  refine Zt V (Zv (Zb (Zg (Zz (Zg (Zg ?_))))))
  obtain ⟨s, hxs⟩ := Yw (l := xsu) (i := k) by7
  have hcs := strs_get hxs
  have hms := Uk hxs
  rw [Xp hxs, supR] at hk
  have hss := Wl hxs
  have HH := Has_c (xsu.take k) s
  rw [← strs_take] at HH
  refine Zc (Za 66 V V V (Zd V V (Za 67 V V V (Zh V tf_77_2 V (Za 68 V V V (Zp (i := 0) V ta_68 V V V (Za 69 V V V (Zd V V (Za 70 V V V (Yd V te_68 V (.seq _ _) V V (hcs) (Za 71 V V V (Zo V Xb V V (Za 72 V V V (Yg (xs := [.tmp 66, .tmp 71]) V V (Has_c met s) by1 ?_)))))))))))))); intro c72 h72
  refine Za 73 V V V (Xr V V ?_); intro c73 h73
  try replace h73 := nott h73 h72
  refine Vs (Zb ?_)
  rcases Zi h73 with ⟨rfl, g73⟩ | ⟨rfl, g73⟩
  ·refine Zr V (Zv (Zb (Zg ?_)))
   rw [if_neg (by rw [hasB_iff.2 (Classical.not_not.1 g73)]; simp)] at hk
   refine Vl Wo V (Zm 77 V V (Zh V tf_77_2 V ⟨V, V⟩) ?_)
   refine Zm 78 V V (Zp (i := 0) V ta_68 V V V ⟨V, V⟩) ?_
   refine Zm 79 V V (Zd V V ⟨V, V⟩) ?_
   refine Zm 80 V V (op_cuth V te_68 V (.seq _ _) V V (by omega) ⟨V, V⟩) ?_
   refine Zm 81 V V (Zh V tf_77_2 V ⟨V, V⟩) ?_
   refine Zm 82 V V (Zp (i := 0) V ta_68 V V V ⟨V, V⟩) ?_
   refine Zm 83 V V (Zd V V ⟨V, V⟩) ?_
   refine Zm 84 V V (Yd V te_68 V (.seq _ _) V V (hcs) ⟨V, V⟩) ?_
   refine Zm 85 V V (Zo V Xb V V ⟨V, V⟩) ?_
   refine Wd 86 V V (fun _ q => Yg (xs := [.tmp 80, .tmp 85]) V V (HH) by1 q) ?_; intro c86 h86
   show AGo _ _ _ _ _ _ _
   refine Zb ?_
   rcases Zi h86 with ⟨rfl, g86⟩ | ⟨rfl, g86⟩
   ·refine Zr V (Zv (Yt (Zb (Zc (Za 64 V V V (Zd V V (Za 65 V V V (Yx V V V (Uj _ (by omega)) ?_))))))))
    refine Za 7 V V V (Ze V V (Vs (Yz ?_)))
    rw [if_neg (by rw [hasB_no g86]; simp)] at hk; exact ⟨k + 1, ⟨by omega, by rw [hss]; exact hk⟩, by show xsu.length - (k + 1) < xsu.length - k; omega, by4, by3⟩
   refine Zt V (Zg (Zc (Za 87 V V V (Zh V tf_77_5 V (Za 88 V V V (Zp (i := 0) V Xa V V V (Za 89 V V V (Yl (ns := [0, 1]) (xs := [.const (.int .i64 120), .tmp 88]) V Vn V Vj V V V V (Zs V V (Zq (cs' := [_, _]) (i := 1) V Vi V V V V V (Uf V) V (Vs (Zb (Ya ?_)))))))))))))
   rw [if_pos (hasB_iff.2 g86)] at hk; subst hk; rw [if_pos (by simp)] at hw; subst hw; rw [if_pos (by simp)] at hr; subst hr; exact Yn (i := 1) rfl rfl rfl Ve rfl (Vz _) (Vu _) ⟨rfl, rfl⟩
  refine Zt V (Zg (Zc (Za 74 V V V (Zh V tf_77_5 V (Za 75 V V V (Zp (i := 0) V Xa V V V (Za 76 V V V (Yl (ns := [0, 1]) (xs := [.const (.int .i64 121), .tmp 75]) V Vn V Vj V V V V (Zs V V (Zq (cs' := [_, _]) (i := 1) V Vi V V V V V (Uf V) V (Vs (Zb (Ya ?_)))))))))))))
  rw [if_pos (hasB_no g73)] at hk; subst hk; rw [if_pos (by simp)] at hw; subst hw; rw [if_pos (by simp)] at hr; subst hr; exact Yn (i := 1) rfl rfl rfl Ve rfl (Vz _) (Vu _) ⟨rfl, rfl⟩
 refine Zt V (Zv (Zb (Zg (Zz (Zg (Zg ?_))))))
 obtain ⟨⟨xs, xv, xsu, xms, xds, xp⟩, hxx⟩ := Yw (l := cl) (i := i) by7
 have hcx := Cl.cellss_get hxx
 have hmx := Uk hxx
 rw [Xp hxx, classes1] at hu
 have hsn := Wl hxx
 have hu : (if hasB met xs = true then ((120 : Int), xp) else classes1 (met ++ [xs]) (cl.drop (i + 1))) = r1 := hu
 refine Zc (Za 23 V V V (Zd V V (Za 24 V V V (Zj V Wi V V (Za 25 V V V (Zo V Vm V V (Za 26 V V V (Zd V V (Za 27 V V V (Yd V te_35 V (.seq _ _) V V (hcx) (Za 28 V V V (Zj V tf_77_0 V V (Za 29 V V V (Zo V Xb V V (Za 30 V V V (Yg (xs := [.tmp 23, .tmp 29]) V V (Has_c met xs) by1 ?_)))))))))))))))); intro c30 h30
 refine Vs (Zb ?_)
 rcases Zi h30 with ⟨rfl, g30⟩ | ⟨rfl, g30⟩
 ·refine Zr V (Zv (Zb (Zc (Za 38 V V V (Zd V V (Za 39 V V V (Zj V Wi V V (Za 40 V V V (Zo V Vm V V (Za 41 V V V (Zd V V (Za 42 V V V (Yd V te_35 V (.seq _ _) V V (hcx) (Za 43 V V V (Zj V tf_77_0 V V (Za 44 V V V (Zo V Xb V V (Za 45 V V V (Ye (xs := [.tmp 44]) el_68 V V V V V V (Uf V) (Za 46 V V V (Xj (i := 1) el_68 V V V V (.seq _ _) by6 ?_)))))))))))))))))))))
  intro u46
  refine Za 3 V V V (Ze V V (Vs (Yt (Zb (Zc (Za 21 V V V (Zd V V (Za 22 V V V (Yx V V V (Uj _ (by omega)) ?_)))))))))
  refine Za 4 V V V (Ze V V (Vs (Yz ?_)))
  rw [if_neg (by rw [hasB_no g30]; simp)] at hu; exact ⟨(i + 1, met ++ [xs], u46), ⟨by show i + 1 ≤ cl.length; omega, hu, by rw [hsn, List.map_append, hm]; rfl⟩, by show cl.length - (i + 1) < cl.length - i; omega, Uc rfl (Ue (by rw [strs_app]; rfl)) by4, (Vy rfl)⟩
 refine Zt V (Zg (Zc (Za 31 V V V (Zj V Wi V V (Za 32 V V V (Zo V Vm V V (Za 33 V V V (Zd V V (Za 34 V V V (Yd V te_35 V (.seq _ _) V V (hcx) (Za 35 V V V (Zj V tf_77_5 V V (Za 36 V V V (Zo V Xa V V (Za 37 V V V (Yl (ns := [0, 1]) (xs := [.const (.int .i64 120), .tmp 36]) V Vn V Vj V V V V (Zs V V (Zq (cs' := [_, _]) (i := 0) V Vi V V V V V (Uf V) V (Vs (Zb (Ya ?_)))))))))))))))))))))
 rw [if_pos (hasB_iff.2 g30)] at hu; subst hu; rw [if_pos (by simp)] at hr; subst hr; exact Yn (i := 0) rfl rfl rfl Ve rfl (Vz _) (Vu _) ⟨rfl, rfl⟩
def EOpsF (P : Program) (ops : List Oper) (ws : List Nat) (anc : List (List Nat)) (i0 : Nat) (cs0 : List AV) (Q : Sl → Mem → Prop) : List Nat → Sl → Mem → List (Nat × Nat) → Prop
 | [], al, M, _ => Q al M
 | i :: ord, al, M, L => ∃ o, ops[i]? = some o ∧
     if i = i0 then ∀ b, EOpsF P ops ws anc i0 cs0 Q ord (al.put o.dst (.ptr b 0)) (M ++ [.loc b cs0]) L
     else if ws.contains i then o.guard = none ∧
      ((∃ k r, M[k]? = some r ∧ (L.all fun x => x.2 != k || (anc.getD i []).contains x.1) = true ∧ OpT P o (al.only (Oper.tmps o)) [r] (fun v M' => ∃ r', M' = [r'] ∧ EOpsF P ops ws anc i0 cs0 Q ord (al.put o.dst v) (M.set k r') L)) ∨
       OpT P o (al.only (Oper.tmps o)) [] (fun v M' => EOpsF P ops ws anc i0 cs0 Q ord (al.put o.dst v) (M ++ M') L))
     else ∃ (fp : Option Nat) (v : AV), fp.all (fun k => Nat.blt k M.length) = true ∧ DStep P ops o al (fpm M fp) v ∧ EOpsF P ops ws anc i0 cs0 Q ord (al.put o.dst v) M ((fp.toList.map fun k => (i, k)) ++ L)
def flowEF (n : Nat) (l : List Oper) (ord ws : List Nat) (anc : List (List Nat)) (i0 : Nat) : Bool :=
 (ord.length == l.length && (List.range l.length).all (ord.contains ·) && decide ord.Nodup && ord.all (fun i => Nat.blt i l.length)) &&
 (l.zipIdx.all fun (o, i) => o.dst.all (· < n) && (bindsOn o).all (fun j => j < i) &&
  (anc.getD i []).all (fun a => (bindsOn o).contains a || (bindsOn o).any (fun c => (anc.getD c []).contains a))) &&
 (ws.all fun j => (List.range l.length).all fun i => i == j || befo ord i j || (anc.getD i []).contains j || i == i0) &&
 (l.zipIdx.all fun (o, i) => l.zipIdx.all fun (p, k) => (k == i || o.dst.isNone || o.dst != p.dst) &&
     (match p.dst with
      | some t => !(Oper.sees l o).contains t || k == i || (if befo ord k i then (anc.getD i []).contains k else (anc.getD k []).contains i)
      | none => true)) && ws.contains i0
structure FlowEF (n : Nat) (l : List Oper) (ord ws : List Nat) (anc : List (List Nat)) (i0 : Nat) : Prop where
 nodup : ord.Nodup
 mem : ∀ i, i < l.length → i ∈ ord
 lt : ∀ i ∈ ord, i < l.length
 dst : ∀ (i : Nat) (o : Oper), l[i]? = some o → o.dst.all (· < n) = true
 back : ∀ (i : Nat) (o : Oper), l[i]? = some o → ∀ j ∈ bindsOn o, j < i
 ancs : ∀ (i : Nat) (o : Oper), l[i]? = some o → ∀ a ∈ anc.getD i [], a ∈ bindsOn o ∨ ∃ c ∈ bindsOn o, a ∈ anc.getD c []
 wild : ∀ j ∈ ws, ∀ i, i < l.length → i = j ∨ befo ord i j = true ∨ j ∈ anc.getD i [] ∨ i = i0
 once : ∀ (i : Nat) (o : Oper) (k : Nat) (p : Oper) (t : Tmp), l[i]? = some o → l[k]? = some p → o.dst = some t → p.dst = some t → k = i
 see : ∀ (i : Nat) (o : Oper) (k : Nat) (p : Oper) (t : Tmp), l[i]? = some o → l[k]? = some p → p.dst = some t → t ∈ Oper.sees l o → k = i ∨ (befo ord k i = true ∧ k ∈ anc.getD i []) ∨ (befo ord k i = false ∧ i ∈ anc.getD k [])
 free : i0 ∈ ws
theorem FlowEF.of {n : Nat} {l : List Oper} {ord ws : List Nat} {anc : List (List Nat)} {i0 : Nat} (h : flowEF n l ord ws anc i0 = true) : FlowEF n l ord ws anc i0 := by
 unfold flowEF at h
 simp only [Bool.and_eq_true] at h
 obtain ⟨⟨⟨⟨⟨⟨⟨_, h2⟩, h3⟩, h7⟩, h4⟩, h5⟩, h6⟩, h8⟩ := h
 have hmem : ∀ i, i < l.length → i ∈ ord := fun i hi => by simpa using all_range h2 hi
 refine ⟨by simpa using h3, hmem, fun i hi => by simpa [Nat.blt_eq] using List.all_eq_true.1 h7 i hi, fun i o ho => ?_, fun i o ho j hj => ?_, fun i o ho a ha => ?_, fun j hj i hi => ?_, fun i o k p t ho hp e1 e2 => ?_, fun i o k p t ho hp e1 e2 => ?_, by simpa using h8⟩
 ·have := Wq h4 ho
  simp only [Bool.and_eq_true] at this
  exact this.1.1
 ·have := Wq h4 ho
  simp only [Bool.and_eq_true, List.all_eq_true, decide_eq_true_eq] at this
  exact this.1.2 j hj
 ·have := Wq h4 ho
  simp only [Bool.and_eq_true, List.all_eq_true] at this
  have := this.2 a ha
  simp only [Bool.or_eq_true, List.contains_iff_mem, List.any_eq_true] at this
  exact this
 ·have := all_range (List.all_eq_true.1 h5 j hj) hi
  simp only [Bool.or_eq_true, beq_iff_eq, List.contains_iff_mem] at this
  rcases this with ((q | q) | q) | q
  ·exact Or.inl q
  ·exact Or.inr (Or.inl q)
  ·exact Or.inr (Or.inr (Or.inl q))
  exact Or.inr (Or.inr (Or.inr q))
 ·have := Wq (Wq h6 ho) hp
  simp only [Bool.and_eq_true, Bool.or_eq_true, beq_iff_eq] at this
  rcases this.1 with (q | q) | q
  ·exact q
  ·simp [e1] at q
  simp [e1, e2] at q
 have := (Bool.and_eq_true _ _ ▸ Wq (Wq h6 ho) hp).2
 simp only [e1, Bool.or_eq_true, beq_iff_eq, Bool.not_eq_true'] at this
 rcases this with (q | q) | q
 ·simp [e2] at q
 ·exact Or.inl q
 split at q
 ·rename_i hb; exact Or.inr (Or.inl ⟨hb, by simpa using q⟩)
 rename_i hb
 by_cases e : k = i
 ·exact Or.inl e
 exact Or.inr (Or.inr ⟨by simpa using hb, by simpa using q⟩)
def pdM (cs0 : List AV) : Option Nat → Mem
 | none => []
 | some b => [.loc b cs0]
section
variable {P : Program} {n : Nat} {l : List Oper} {ord ws : List Nat} {anc : List (List Nat)} {QQ : Sl → Mem → Prop} {al : Sl} {i0 : Nat} {cs0 : List AV}
structure AtF (P : Program) (n B : Nat) (F : EH) (Mf : Mem) (w0 : World) (ds : List Deferred) (l : List Oper) (ord ws : List Nat) (anc : List (List Nat)) (i0 : Nat) (cs0 : List AV) (QQ : Sl → Mem → Prop) (al : Sl) (lis : Array Bool) (a : Act) (w : World) (pr rest : List Nat) (pv : Nat → AV) (M : Mem) (L : List (Nat × Nat)) (pd : Option Nat) : Prop where
 size : lis.size = l.length
 closed : ∀ (k : Nat) (o : Oper), l[k]? = some o → lis[k]? = some true → ∀ j ∈ bindsOn o, lis[j]? = some true
 defers : a.defers = ds
 tmps : a.tmps.size = n
 ord : ord = pr ++ rest
 done : ∀ k, lis[k]? = some true → k ∈ pr ∨ (k = i0 ∧ pd ≠ none)
 wild : ∀ k ∈ pr, k ∈ ws → lis[k]? = some true
 pnd : ∀ b, pd = some b → i0 ∈ rest ∧ lis[i0]? = some true ∧ pv i0 = .ptr b 0
 next : rest = [] ∨ ∃ j rest', rest = j :: rest' ∧ j ∈ ws ∧ (j = i0 → pd = none)
 eops : EOpsF P l ws anc i0 cs0 QQ rest (putsI l pv pr al) M L
 lenL : ∀ x ∈ L, x.2 < M.length
 steps : ∀ p1 i p2, pr = p1 ++ i :: p2 → i ∉ ws → lis[i]? = some false → ∃ o fp, l[i]? = some o ∧ (∀ p, fp = some p → (i, p) ∈ L) ∧ DStep P l o (putsI l pv p1 al) (fpm M fp) (pv i)
 mem : ∃ F', Ext F F' ∧ Inv B F' (M ++ (pdM cs0 pd ++ Mf)) w ∧ Below B w0 w ∧
  (∀ t v, al.lookup t = some v → (∀ (j : Nat) (o : Oper), l[j]? = some o → o.dst = some t → lis[j]? = some false) → t < n ∧ Rel F' v (a.tmps.getD t undef)) ∧
  (∀ (j : Nat) (o : Oper) (t : Tmp), l[j]? = some o → o.dst = some t → lis[j]? = some true → t < n ∧ Rel F' (pv j) (a.tmps.getD t undef))

theorem closed_ancF (hfl : FlowEF n l ord ws anc i0) {lis : Array Bool} (hc : ∀ (k : Nat) (o : Oper), l[k]? = some o → lis[k]? = some true → ∀ j ∈ bindsOn o, lis[j]? = some true) : ∀ (i : Nat) (o : Oper), l[i]? = some o → (∀ j ∈ bindsOn o, lis[j]? = some true) → ∀ a ∈ anc.getD i [], lis[a]? = some true := by
 intro i
 induction i using Nat.strongRecOn with
 | _ i ih =>
  intro o ho hb a ha
  rcases hfl.ancs i o ho a ha with q | ⟨c, hc1, hc2⟩
  ·exact hb a q
  have hci := hfl.back i o ho c hc1
  have hil : i < l.length := Vf ho
  have hcl : l[c]? = some l[c] := List.getElem?_eq_getElem (by omega)
  exact ih c hci l[c] hcl (hc c l[c] hcl (hb c hc1)) a hc2
theorem fpm_app {M X : Mem} {fp : Option Nat} (h : ∀ p, fp = some p → p < M.length) : fpm (M ++ X) fp = fpm M fp := by
 cases fp with
 | none => rfl
 | some p => simp only [fpm]; rw [List.getElem?_append_left (h p rfl)]
theorem advanceF (hnd : ord.Nodup) (hi0 : i0 ∈ ws) (lis : Array Bool) : ∀ (rest pr : List Nat) (pv : Nat → AV) (L : List (Nat × Nat)) (M : Mem) (pd : Option Nat), ord = pr ++ rest → (∀ b, pd = some b → i0 ∈ rest ∧ pv i0 = .ptr b 0) → EOpsF P l ws anc i0 cs0 QQ rest (putsI l pv pr al) M L → (∀ x ∈ L, x.2 < M.length) →
    (∀ p1 i p2, pr = p1 ++ i :: p2 → i ∉ ws → lis[i]? = some false → ∃ o fp, l[i]? = some o ∧ (∀ p, fp = some p → (i, p) ∈ L) ∧ DStep P l o (putsI l pv p1 al) (fpm M fp) (pv i)) →
    ∃ pr' rest' pv' L' M' pd', ord = pr' ++ rest' ∧ (rest' = [] ∨ ∃ j r, rest' = j :: r ∧ j ∈ ws ∧ (j = i0 → pd' = none)) ∧ EOpsF P l ws anc i0 cs0 QQ rest' (putsI l pv' pr' al) M' L' ∧ (∀ x ∈ L', x.2 < M'.length) ∧ (∀ k ∈ pr, k ∈ pr') ∧ (∀ k ∈ pr', k ∈ ws → k ∈ pr ∨ (k = i0 ∧ pd ≠ none)) ∧ (∀ k ∈ pr, pv' k = pv k) ∧
     (∀ p1 i p2, pr' = p1 ++ i :: p2 → i ∉ ws → lis[i]? = some false → ∃ o fp, l[i]? = some o ∧ (∀ p, fp = some p → (i, p) ∈ L') ∧ DStep P l o (putsI l pv' p1 al) (fpm M' fp) (pv' i)) ∧
     (∀ b, pd' = some b → pd = some b ∧ i0 ∈ rest') ∧ (pd ≠ none → pd' ≠ none ∨ i0 ∈ pr') ∧ M' ++ pdM cs0 pd' = M ++ pdM cs0 pd ∧ pv' i0 = pv i0 := by
 intro rest
 induction rest with
 | nil =>
  intro pr pv L M pd ho hp he hlL hs
  have : pd = none := by
   cases pd with
   | none => rfl
   | some b => exact absurd (hp b rfl).1 (by simp)
  subst this
  exact ⟨pr, [], pv, L, M, none, ho, Or.inl V, he, hlL, fun k h => h, fun k h _ => .inl h, fun _ _ => V, hs, fun b h => by simp at h, fun h => absurd V h, V, V⟩
 | cons i rest ih =>
  intro pr pv L M pd ho hp he hlL hs
  by_cases hw : i ∈ ws
  ·by_cases hz : i = i0
   ·cases hpd : pd with
    | none => subst hpd; exact ⟨pr, i :: rest, pv, L, M, none, ho, Or.inr ⟨i, rest, rfl, hw, fun _ => rfl⟩, he, hlL, fun k h => h, fun k h _ => .inl h, fun _ _ => rfl, hs, fun b h => by simp at h, fun h => absurd rfl h, rfl, rfl⟩
    | some b =>
     subst hz
     subst hpd
     obtain ⟨o, ho', he⟩ := he
     rw [if_pos rfl] at he
     have he := he b
     have hv := (hp b rfl).2
     obtain ⟨pr2, rest2, pv2, L2, M2, pd2, q1, q2, q3, q0, q4, q5, q6, q7, q8, q9, q10, q11⟩ := ih (pr ++ [i]) pv L (M ++ [.loc b cs0]) none (by rw [ho]; simp) (fun b h => by simp at h) (by
      rw [putsI_app]
      simp only [putsI, ho', Option.bind_some, hv]
      exact he) (fun x hx => by have := hlL x hx; simp; omega) (by
      intro p1 j p2 hsp hj hl
      rcases List.eq_nil_or_concat p2 with rfl | ⟨p2', y, rfl⟩
      ·have e2 : pr = p1 ∧ i = j := by
        have := List.append_inj' hsp rfl
        exact ⟨this.1, by simpa using this.2⟩
       obtain ⟨rfl, rfl⟩ := e2
       exact absurd hw hj
      have e3 : pr = p1 ++ j :: p2' := by
       rw [List.concat_eq_append, show p1 ++ j :: (p2' ++ [y]) = (p1 ++ j :: p2') ++ [y] from by simp] at hsp
       exact (List.append_inj' hsp V).1
      obtain ⟨o', fp', k1, k2, k3⟩ := hs p1 j p2' e3 hj hl
      exact ⟨o', fp', k1, k2, by rw [fpm_app (fun p hp => hlL (j, p) (k2 p hp))]; exact k3⟩)
     refine ⟨pr2, rest2, pv2, L2, M2, pd2, q1, q2, q3, q0, fun k hk => q4 k (by simp [hk]), fun k hk hkw => ?_, fun k hk => q6 k (by simp [hk]), q7, fun b' h => by have := (q8 b' h).1; simp at this, fun _ => .inr (q4 i (by simp)), ?_, q11⟩
     ·rcases q5 k hk hkw with h | h
      ·rcases List.mem_append.1 h with h | h
       ·exact .inl h
       simp at h; subst h; exact .inr ⟨rfl, by simp⟩
      exact absurd V h.2
     rw [q10]; simp [pdM]
   exact ⟨pr, i :: rest, pv, L, M, pd, ho, Or.inr ⟨i, rest, V, hw, fun q => absurd q hz⟩, he, hlL, fun k h => h, fun k h _ => .inl h, fun _ _ => V, hs, fun b h => ⟨h, (hp b h).1⟩, fun h => .inl h, V, V⟩
  have hz : i ≠ i0 := fun q => hw (by rw [q]; exact hi0)
  obtain ⟨o, ho', he⟩ := he
  rw [if_neg hz, if_neg (by simpa using hw)] at he
  obtain ⟨fp, v, h0, h1, h2⟩ := he
  have hip : i ∉ pr := by
   intro h
   rw [ho, List.nodup_append] at hnd
   exact hnd.2.2 i h i (by simp) V
  let pv' : Nat → AV := fun x => if x = i then v else pv x
  have hpv : ∀ k ∈ pr, pv' k = pv k := fun k hk => if_neg (fun e => hip (by rw [← e]; exact hk))
  have hpi : pv' i = v := if_pos rfl
  have hpz : pv' i0 = pv i0 := if_neg (fun e => hz e.symm)
  have heq : putsI l pv' pr al = putsI l pv pr al := putsI_congr l pv' pv pr al hpv
  obtain ⟨pr2, rest2, pv2, L2, M2, pd2, q1, q2, q3, q0, q4, q5, q6, q7, q8, q9, q10, q11⟩ := ih (pr ++ [i]) pv' ((fp.toList.map fun k => (i, k)) ++ L) M pd (by rw [ho]; simp) (fun b h => by
   obtain ⟨h3, h4⟩ := hp b h
   rcases List.mem_cons.1 h3 with q | q
   ·exact absurd q.symm hz
   ·exact ⟨q, by rw [hpz, h4]⟩) (by
   rw [putsI_app, heq]
   simp only [putsI, ho', Option.bind_some, hpi]
   exact h2) (by
   intro x hx
   rcases List.mem_append.1 hx with hx | hx
   ·cases fp with
    | none => simp at hx
    | some k =>
     simp at hx
     subst hx
     simpa [Nat.blt_eq] using h0
   ·exact hlL x hx) (by
   intro p1 j p2 hsp hj hl
   rcases List.eq_nil_or_concat p2 with rfl | ⟨p2', y, rfl⟩
   ·have e2 : pr = p1 ∧ i = j := by
     have := List.append_inj' hsp rfl
     exact ⟨this.1, by simpa using this.2⟩
    obtain ⟨rfl, rfl⟩ := e2
    exact ⟨o, fp, ho', fun p hp => by subst hp; simp, by rw [heq, hpi]; exact h1⟩
   have e2 : pr = p1 ++ j :: p2' ∧ i = y := by
    rw [List.concat_eq_append, show p1 ++ j :: (p2' ++ [y]) = (p1 ++ j :: p2') ++ [y] from by simp] at hsp
    have := List.append_inj' hsp rfl
    exact ⟨this.1, by simpa using this.2⟩
   obtain ⟨e3, _⟩ := e2
   obtain ⟨o', fp', k1, k2, k3⟩ := hs p1 j p2' e3 hj hl
   refine ⟨o', fp', k1, fun p hp => List.mem_append_right _ (k2 p hp), ?_⟩
   rw [putsI_congr l pv' pv p1 al (fun k hk => hpv k (by rw [e3]; simp [hk])), hpv j (by rw [e3]; simp)]
   exact k3)
  exact ⟨pr2, rest2, pv2, L2, M2, pd2, q1, q2, q3, q0, fun k hk => q4 k (by simp [hk]), fun k hk hkw => by
   rcases q5 k hk hkw with h | h
   ·rcases List.mem_append.1 h with h | h
    ·exact .inl h
    simp at h; subst h; exact absurd hkw hw
   exact .inr h, fun k hk => (q6 k (by simp [hk])).trans (hpv k hk), q7, q8, q9, q10, by rw [q11, hpz]⟩

theorem seesF {lis : Array Bool} {a : Act} {pv : Nat → AV} (hfl : FlowEF n l ord ws anc i0) (hsize : lis.size = l.length) (hclosed : ∀ (k : Nat) (o : Oper), l[k]? = some o → lis[k]? = some true → ∀ j ∈ bindsOn o, lis[j]? = some true) {F' : EH}
    (h4 : ∀ t v, al.lookup t = some v → (∀ (j : Nat) (o : Oper), l[j]? = some o → o.dst = some t → lis[j]? = some false) → t < n ∧ Rel F' v (a.tmps.getD t undef))
    (h5 : ∀ (j : Nat) (o : Oper) (t : Tmp), l[j]? = some o → o.dst = some t → lis[j]? = some true → t < n ∧ Rel F' (pv j) (a.tmps.getD t undef))
    {i : Nat} {o : Oper} (ho : l[i]? = some o) (hni : lis[i]? = some false) (hrd : ∀ j ∈ bindsOn o, lis[j]? = some true) {p1 p2 : List Nat} (hsp : ord = p1 ++ i :: p2) :
    ∀ t ∈ Oper.sees l o, ∀ v, (putsI l pv p1 al).lookup t = some v → t < n ∧ Rel F' v (a.tmps.getD t undef) := by
 intro t ht v hv
 have hanc := closed_ancF hfl hclosed i o ho hrd
 rcases putsI_lookup l pv p1 al t with ⟨j, p, k1, k2, k3, k4⟩ | ⟨k1, k2⟩
 ·rw [k4] at hv
  simp at hv
  subst hv
  have hb := (befo_split hfl.nodup hsp (k := j)).1 k1
  rcases hfl.see i o j p t ho k2 k3 ht with q | q | q
  ·subst q; exfalso
   have := hfl.nodup
   rw [hsp, List.nodup_append] at this
   exact this.2.2 j k1 j (by simp) V
  ·exact h5 j p t k2 k3 (hanc j q.2)
  rw [hb] at q; simp at q
 rw [k2] at hv
 refine h4 t v hv (fun j p hj hd => ?_)
 have hjl : j < lis.size := by
  rw [hsize]
  rcases Nat.lt_or_ge j l.length with q | q
  ·exact q
  rw [List.getElem?_eq_none q] at hj; simp at hj
 rcases hfl.see i o j p t ho hj hd ht with q | q | q
 ·subst q; exact hni
 ·exfalso
  have hjo := hfl.mem j (by rw [← hsize]; exact hjl)
  rw [hsp] at hjo
  rcases List.mem_append.1 hjo with r | r
  ·exact k1 j p r hj hd
  rcases List.mem_cons.1 r with r | r
  ·subst r; rw [befo] at q; simp at q
  have := (befo_split hfl.nodup hsp (k := j)).2 r
  rw [this] at q; simp at q
 rcases lis_ft hjl with r | r
 ·have := closed_ancF hfl hclosed j p hj (hclosed j p hj r) i q.2
  rw [hni] at this; simp at this
 exact r
theorem slots_nextF (hfl : FlowEF n l ord ws anc i0) {lis : Array Bool} {a : Act} {F1 F2 : EH} {i : Nat} {o : Oper} {pv pv' : Nat → AV} {u : Value} (ho : l[i]? = some o) (hni : lis[i]? = some false) (htm : a.tmps.size = n) (hF2 : Ext F1 F2) (hr : Rel F2 (pv' i) u) (hpv : ∀ k, lis[k]? = some true → pv' k = pv k)
    (h4 : ∀ t v, al.lookup t = some v → (∀ (j : Nat) (o : Oper), l[j]? = some o → o.dst = some t → lis[j]? = some false) → t < n ∧ Rel F1 v (a.tmps.getD t undef))
    (h5 : ∀ (j : Nat) (o : Oper) (t : Tmp), l[j]? = some o → o.dst = some t → lis[j]? = some true → t < n ∧ Rel F1 (pv j) (a.tmps.getD t undef)) :
    (∀ t v, al.lookup t = some v → (∀ (j : Nat) (o : Oper), l[j]? = some o → o.dst = some t → (lis.setIfInBounds i true)[j]? = some false) → t < n ∧ Rel F2 v ((a.put o.dst u).tmps.getD t undef)) ∧
    (∀ (j : Nat) (o' : Oper) (t : Tmp), l[j]? = some o' → o'.dst = some t → (lis.setIfInBounds i true)[j]? = some true → t < n ∧ Rel F2 (pv' j) ((a.put o.dst u).tmps.getD t undef)) := by
 have hdst := hfl.dst i o ho
 have hget : ∀ t, o.dst ≠ some t → (a.put o.dst u).tmps.getD t undef = a.tmps.getD t undef := by
  intro t ht
  cases hd : o.dst with
  | none => rfl
  | some d =>
   simp only [Act.put, Array.getD_eq_getD_getElem?, Array.getElem?_setIfInBounds]
   rw [if_neg (fun e => ht (by rw [hd, e]))]
 constructor
 ·intro t v ht hno
  have hne : o.dst ≠ some t := by
   intro q
   have := hno i o ho q
   rw [Wy hni, if_pos rfl] at this; simp at this
  rw [hget t hne]
  obtain ⟨q1, q2⟩ := h4 t v ht (fun j p hj hd => by
   have := hno j p hj hd
   rw [Wy hni] at this
   split at this
   ·simp at this
   exact this)
  exact ⟨q1, q2.mono hF2⟩
 intro j p t hj hd hlj
 by_cases e : i = j
 ·subst e
  rw [ho] at hj; simp at hj; subst hj
  rw [hd] at hdst ⊢
  simp at hdst
  refine ⟨hdst, ?_⟩
  have : t < a.tmps.size := by rw [htm]; exact hdst
  simpa [Act.put, Array.getD, this] using hr
 rw [Wy hni, if_neg e] at hlj
 have hne : o.dst ≠ some t := by
  intro q
  exact e (hfl.once j p i o t hj ho hd q)
 rw [hget t hne, hpv j hlj]
 obtain ⟨q1, q2⟩ := h5 j p t hj hd hlj
 exact ⟨q1, q2.mono hF2⟩

theorem region_flowEF {ro : Option Nat} {ds : List Deferred} {B : Nat} {F : EH} {Mf : Mem} {w0 : World} {Q : Exit → Act → World → Prop} (hfl : FlowEF n l ord ws anc i0) (hfree : ∀ o, l[i0]? = some o → o.guard = none ∧ OpT P o [] [] (fun v M' => ∃ b, v = .ptr b 0 ∧ M' = [.loc b cs0]))
    (hend : ∀ a w pr pv M L, AtF P n B F Mf w0 ds l ord ws anc i0 cs0 QQ al (Array.replicate l.length true) a w pr [] pv M L none → Q .normal a w) :
    ∀ (fuel : Nat) (lis : Array Bool) (a : Act) (w : World) (pr rest : List Nat) (pv : Nat → AV) (M : Mem) (L : List (Nat × Nat)) (pd : Option Nat), ((List.range l.length).filter (fun j => !(lis[j]? == some true))).length ≤ fuel → AtF P n B F Mf w0 ds l ord ws anc i0 cs0 QQ al lis a w pr rest pv M L pd → wpAnyIn (RF ro) 0 P .any l.toArray Q fuel lis a w := by
 have alltrue : ∀ (lis : Array Bool) (a : Act) (w : World) (pr rest : List Nat) (pv : Nat → AV) (M : Mem) (L : List (Nat × Nat)) (pd : Option Nat), AtF P n B F Mf w0 ds l ord ws anc i0 cs0 QQ al lis a w pr rest pv M L pd → Region.ready .any l.toArray lis = [] → Q .normal a w := by
  intro lis a w pr rest pv M L pd h hrd
  have hall : ∀ i, i < l.length → lis[i]? = some true := by
   intro i
   induction i using Nat.strongRecOn with
   | _ i ih =>
    intro hil
    rcases lis_ft (lis := lis) (j := i) (by rw [h.size]; exact hil) with q | q
    ·exact q
    exfalso
    have : i ∈ Region.ready .any l.toArray lis := (ready_iff h.size).2 ⟨l[i], List.getElem?_eq_getElem hil, q, fun j hj => by
     have := hfl.back i l[i] (List.getElem?_eq_getElem hil) j hj
     exact ih j this (by omega)⟩
    rw [hrd] at this; simp at this
  have e : lis = Array.replicate l.length true := by
   apply Array.ext (by simpa using h.size)
   intro i h1 h2
   have := hall i (by rw [← h.size]; exact h1)
   rw [Array.getElem?_eq_getElem h1] at this
   simpa using this
  have hre : rest = [] := by
   rcases h.next with q | ⟨j, r, q, _, qz⟩
   ·exact q
   exfalso
   have hj : j ∈ ord := by rw [h.ord, q]; simp
   rcases h.done j (hall j (hfl.lt j hj)) with hjp | hjp
   ·have := hfl.nodup
    rw [h.ord, q, List.nodup_append] at this
    exact this.2.2 j hjp j (by simp) V
   exact hjp.2 (qz hjp.1)
  subst hre
  have hpd : pd = none := by
   cases hp : pd with
   | none => rfl
   | some b => exact absurd (h.pnd b hp).1 (by simp)
  subst hpd
  rw [e] at h
  exact hend a w pr pv M L h
 intro fuel
 induction fuel with
 | zero =>
  intro lis a w pr rest pv M L pd hf h
  have hr : Region.ready .any l.toArray lis = [] := by
   cases hr : Region.ready .any l.toArray lis with
   | nil => rfl
   | cons i r =>
    exfalso
    obtain ⟨o, ho, h1, _⟩ := (ready_iff h.size).1 (by rw [hr]; simp : i ∈ Region.ready .any l.toArray lis)
    have hil : i < l.length := by
     rcases Nat.lt_or_ge i l.length with q | q
     ·exact q
     rw [List.getElem?_eq_none q] at ho; simp at ho
    have : i ∈ (List.range l.length).filter (fun j => !(lis[j]? == some true)) := List.mem_filter.2 ⟨by simpa using hil, by simp [h1]⟩
    have := List.length_pos_of_mem this
    omega
  exact ⟨hr, alltrue lis a w pr rest pv M L pd h hr⟩
 | succ fuel ih =>
  intro lis a w pr rest pv M L pd hf h
  refine ⟨alltrue lis a w pr rest pv M L pd h, fun i hi => ?_⟩
  obtain ⟨o, ho, hni, hrd⟩ := (ready_iff h.size).1 hi
  have hil : i < l.length := by
   rcases Nat.lt_or_ge i l.length with q | q
   ·exact q
   rw [List.getElem?_eq_none q] at ho; simp at ho
  have hcount : ((List.range l.length).filter (fun j => !((lis.setIfInBounds i true)[j]? == some true))).length ≤ fuel := by
   have h1 := count_set l.length (fun j => lis[j]? == some true) i hil (by simp [hni])
   have h2 : (List.range l.length).filter (fun j => !((lis.setIfInBounds i true)[j]? == some true)) = (List.range l.length).filter (fun j => !((lis[j]? == some true) || j == i)) := by
    apply List.filter_congr
    intro j hj
    rw [Wy hni]
    by_cases e : i = j
    ·subst e
     rw [if_pos rfl]; simp
    rw [if_neg e]
    have : (j == i) = false := by simp; omega
    simp [this]
   rw [h2]
   omega
  have hanc := closed_ancF hfl h.closed i o ho hrd
  obtain ⟨F0, m1, m2, m3, m4, m5⟩ := h.mem
  have hclosed : ∀ (k : Nat) (o' : Oper), l[k]? = some o' → (lis.setIfInBounds i true)[k]? = some true → ∀ j ∈ bindsOn o', (lis.setIfInBounds i true)[j]? = some true := by
   intro k p hk hlk j hj
   rw [Wy hni] at hlk ⊢
   by_cases e : i = k
   ·subst e
    rw [ho] at hk; simp at hk; subst hk
    rw [hrd j hj]; split <;> rfl
   rw [if_neg e] at hlk
   rw [h.closed k p hk hlk j hj]; split <;> rfl
  have hone : ∀ k : Nat, (lis.setIfInBounds i true)[k]? = some false → lis[k]? = some false := by
   intro k hk
   rw [Wy hni] at hk
   split at hk
   ·simp at hk
   exact hk
  have hio : i ∈ ord := hfl.mem i hil
  by_cases hearly : i = i0 ∧ ∃ j r, rest = j :: r ∧ j ≠ i0
  ·-- the variable, before its place
   obtain ⟨rfl, j, r, hre, hji⟩ := hearly
   have hpd : pd = none := by
    cases hp : pd with
    | none => rfl
    | some b => have := (h.pnd b hp).2.1; rw [hni] at this; simp at this
   subst hpd
   have hip : i ∉ pr := fun hh => by have := h.wild i hh hfl.free; rw [hni] at this; simp at this
   obtain ⟨hg, hop⟩ := hfree o ho
   unfold wpOpIn
   simp only [List.getElem?_toArray, ho]
   rw [if_pos (by simp [Region.wanted, hg])]
   refine wp_exits (Oper.wpIn_mono ?_ (hop n B F0 (M ++ Mf) a w (by simpa [pdM] using m2) ⟨h.tmps, fun t v e => by simp at e⟩ ro))
   rintro a' w' ⟨u, v, M', F2, rfl, ⟨b, rfl, rfl⟩, hr, hF2, hi2, hb2⟩
   let pv' : Nat → AV := fun x => if x = i then .ptr b 0 else pv x
   have hpv : ∀ k ∈ pr, pv' k = pv k := fun k hk => if_neg (fun e => hip (by rw [← e]; exact hk))
   have hpi : pv' i = .ptr b 0 := if_pos rfl
   have heq : ∀ p1, (∀ k ∈ p1, k ∈ pr) → putsI l pv' p1 al = putsI l pv p1 al := fun p1 hp => putsI_congr l pv' pv p1 al (fun k hk => hpv k (hp k hk))
   have hpvl : ∀ k, lis[k]? = some true → pv' k = pv k := fun k hk => by
    rcases h.done k hk with q | q
    ·exact hpv k q
    exact absurd V q.2
   obtain ⟨s1, s2⟩ := slots_nextF (al := al) hfl ho hni h.tmps hF2 (pv := pv) (pv' := pv') (by rw [hpi]; exact hr) hpvl m4 m5
   refine ih _ _ _ pr rest pv' M L (some b) hcount ⟨by simpa using h.size, hclosed, by cases o.dst <;> exact h.defers, by cases o.dst <;> simp [Act.put, h.tmps], h.ord, fun k hk => ?_, fun k hk hkw => ?_, fun b' hb' => ?_, .inr ⟨j, r, hre, ?_, fun e => absurd e hji⟩, ?_, h.lenL, ?_, F2, m1.trans hF2, ?_, m3.trans hb2, s1, s2⟩
   ·rw [Wy hni] at hk
    split at hk
    ·rename_i e; subst e; exact .inr ⟨rfl, by simp⟩
    rcases h.done k hk with q | q
    ·exact .inl q
    exact absurd V q.2
   ·rw [Wy hni, h.wild k hk hkw]; split <;> rfl
   ·simp only [Option.some.injEq] at hb'
    subst hb'
    refine ⟨?_, by rw [Wy hni, if_pos rfl], hpi⟩
    have := hio
    rw [h.ord] at this
    exact (List.mem_append.1 this).resolve_left hip
   ·rcases h.next with q | ⟨j', r', q, hq, _⟩
    ·rw [hre] at q; simp at q
    rw [hre] at q; simp at q; rw [q.1]; exact hq
   ·rw [heq pr (fun _ hk => hk)]; exact h.eops
   ·intro p1 x p2 hsp hx hl
    obtain ⟨ox, fp, k1, k2, k3⟩ := h.steps p1 x p2 hsp hx (hone x hl)
    refine ⟨ox, fp, k1, k2, ?_⟩
    rw [heq p1 (fun k hk => by rw [hsp]; simp [hk]), hpv x (by rw [hsp]; simp)]; exact k3
   refine hi2.perm ?_
   have : (Res.loc b cs0 :: (M ++ Mf)).Perm (M ++ Res.loc b cs0 :: Mf) := List.perm_middle.symm
   simpa [pdM] using this
  by_cases hiw : i ∈ ws
  ·-- an operation that writes: it is the next
   have hrest : ∃ rest', rest = i :: rest' := by
    rcases h.next with q | ⟨j, r, q, hjw, qz⟩
    ·exfalso
     subst q
     have : i ∈ pr := by have := h.ord; simp at this; rw [← this]; exact hio
     have := h.wild i this hiw
     rw [hni] at this; simp at this
    by_cases e : j = i
    ·subst e; exact ⟨r, q⟩
    exfalso
    have hjl : j < l.length := hfl.lt j (by rw [h.ord, q]; simp)
    have hsp : ord = pr ++ j :: r := by rw [h.ord, q]
    have hir : i ∈ r := by
     have := hio
     rw [hsp] at this
     rcases List.mem_append.1 this with k | k
     ·have := h.wild i k hiw
      rw [hni] at this; simp at this
     rcases List.mem_cons.1 k with k | k
     ·exact absurd k.symm e
     exact k
    have hb := (befo_split hfl.nodup hsp (k := i)).2 hir
    rcases hfl.wild j hjw i hil with k | k | k | k
    ·exact e k.symm
    ·rw [hb] at k; simp at k
    ·have := hanc j k
     rcases h.done j this with this | this
     ·have hnd := hfl.nodup
      rw [hsp, List.nodup_append] at hnd
      exact hnd.2.2 j this j (by simp) V
     exact this.2 (qz this.1)
    exact hearly ⟨k, j, r, q, fun e2 => e (by rw [e2, k])⟩
   obtain ⟨rest', rfl⟩ := hrest
   obtain ⟨o', ho', he⟩ := h.eops
   rw [ho] at ho'; simp at ho'; subst ho'
   have hsp : ord = pr ++ i :: rest' := h.ord
   have hsees := seesF (pv := pv) hfl h.size h.closed m4 m5 ho hni hrd hsp
   have hslots : Slots n F0 ((putsI l pv pr al).only (Oper.tmps o)) a.tmps := by
    refine ⟨h.tmps, fun t v' e => ?_⟩
    rw [only_lookup] at e
    split at e
    ·rename_i hc
     exact hsees t (by unfold Oper.sees; exact List.mem_append_left _ (by simpa using hc)) v' e
    simp at e
   have hip : i ∉ pr := by
    intro hh
    have := hfl.nodup
    rw [hsp, List.nodup_append] at this
    exact this.2.2 i hh i (by simp) V
   have hpd : ∀ b, pd = some b → i ≠ i0 ∧ i0 ∈ rest' := fun b hb => by
    obtain ⟨h1, h2, _⟩ := h.pnd b hb
    have hne : i ≠ i0 := fun e => by rw [← e, hni] at h2; simp at h2
    exact ⟨hne, (List.mem_cons.1 h1).resolve_left (fun e => hne e.symm)⟩
   have hpn : pd ≠ none → i ≠ i0 := fun hp => by
    cases hq : pd with
    | none => exact absurd hq hp
    | some b => exact (hpd b hq).1
   obtain ⟨MF, hMF⟩ : ∃ MF, pdM cs0 pd ++ Mf = MF := ⟨_, rfl⟩
   rw [hMF] at m2
   have fin : ∀ (u : Value) (v : AV) (F2 : EH) (w' : World) (M2 : Mem), Rel F2 v u → Ext F0 F2 → Inv B F2 (M2 ++ MF) w' → Below B w w' → ∀ L' : List (Nat × Nat), EOpsF P l ws anc i0 cs0 QQ rest' ((putsI l pv pr al).put o.dst v) M2 L' → (∀ x ∈ L', x.2 < M2.length) →
       (∀ i' fp, lis[i']? = some false → (∀ p, fp = some p → (i', p) ∈ L) → (fpm M2 fp = fpm M fp ∧ ∀ p, fp = some p → (i', p) ∈ L') ∨ i' ∈ anc.getD i []) →
       wpAnyIn (RF ro) 0 P .any l.toArray Q fuel (lis.setIfInBounds i true) (a.put o.dst u) w' := by
    intro u v F2 w' M2 hr hF2 hi2 hb2 L' heo hml hkeep
    let pv' : Nat → AV := fun x => if x = i then v else pv x
    have hpv : ∀ k ∈ pr, pv' k = pv k := fun k hk => if_neg (fun e => hip (by rw [← e]; exact hk))
    have hpi : pv' i = v := if_pos rfl
    have hpz : pd ≠ none → pv' i0 = pv i0 := fun hp => if_neg (fun e => hpn hp e.symm)
    have heq : putsI l pv' pr al = putsI l pv pr al := putsI_congr l pv' pv pr al hpv
    obtain ⟨pr2, rest2, pv2, L2, M3, pd3, q1, q2, q3, q0, q4, q5, q6, q7, q8, q9, q10, q11⟩ := advanceF (P := P) (QQ := QQ) (al := al) (anc := anc) (cs0 := cs0) hfl.nodup hfl.free (lis.setIfInBounds i true) rest' (pr ++ [i]) pv' L' M2 pd (by rw [hsp]; simp) (fun b hb => ⟨(hpd b hb).2, by rw [hpz (by rw [hb]; simp)]; exact (h.pnd b hb).2.2⟩) (by
     rw [putsI_app, heq]
     simp only [putsI, ho, Option.bind_some, hpi]
     exact heo) hml (by
     intro p1 j p2 hspj hj hl
     have hl' := hone j hl
     rcases List.eq_nil_or_concat p2 with rfl | ⟨p2', y, rfl⟩
     ·have e2 : pr = p1 ∧ i = j := by
       have := List.append_inj' hspj rfl
       exact ⟨this.1, by simpa using this.2⟩
      obtain ⟨rfl, rfl⟩ := e2
      exact absurd hiw hj
     have e3 : pr = p1 ++ j :: p2' := by
      rw [List.concat_eq_append, show p1 ++ j :: (p2' ++ [y]) = (p1 ++ j :: p2') ++ [y] from by simp] at hspj
      exact (List.append_inj' hspj V).1
     obtain ⟨oj, fp, k1, k2, k3⟩ := h.steps p1 j p2' e3 hj hl'
     rcases hkeep j fp hl' k2 with r | r
     ·refine ⟨oj, fp, k1, r.2, ?_⟩
      rw [putsI_congr l pv' pv p1 al (fun k hk => hpv k (by rw [e3]; simp [hk])), hpv j (by rw [e3]; simp)]
      rw [r.1]; exact k3
     have := hanc j r
     rw [hl'] at this; simp at this)
    have hpvl : ∀ k, lis[k]? = some true → pv2 k = pv k := fun k hk => by
     rcases h.done k hk with this | this
     ·rw [q6 k (by simp [this]), hpv k this]
     rw [this.1, q11, hpz this.2]
    have hpv2i : pv2 i = v := by rw [q6 i (by simp), hpi]
    obtain ⟨s1, s2⟩ := slots_nextF (al := al) hfl ho hni h.tmps hF2 (pv := pv) (pv' := pv2) (by rw [hpv2i]; exact hr) hpvl m4 m5
    have hl0 : pd ≠ none → (lis.setIfInBounds i true)[i0]? = some true := fun hp => by
     cases hq : pd with
     | none => exact absurd hq hp
     | some b => rw [Wy hni, (h.pnd b hq).2.1]; split <;> rfl
    refine ih _ _ _ pr2 rest2 pv2 M3 L2 pd3 hcount ⟨by simpa using h.size, hclosed, by cases o.dst <;> exact h.defers, by cases o.dst <;> simp [Act.put, h.tmps], q1, fun k hk => ?_, fun k hk hkw => ?_, fun b hb => ?_, q2, q3, q0, q7, F2, m1.trans hF2, ?_, m3.trans hb2, s1, s2⟩
    ·rw [Wy hni] at hk
     split at hk
     ·rename_i e; subst e; exact .inl (q4 _ (by simp))
     rcases h.done k hk with this | this
     ·exact .inl (q4 k (by simp [this]))
     rcases q9 this.2 with r | r
     ·exact .inr ⟨this.1, r⟩
     rw [this.1]; exact .inl r
    ·rcases q5 k hk hkw with this | this
     ·rw [Wy hni]
      rcases List.mem_append.1 this with r | r
      ·rw [h.wild k r hkw]; split <;> rfl
      simp at r; rw [if_pos r.symm]
     rw [this.1]; exact hl0 this.2
    ·obtain ⟨b1, b2⟩ := q8 b hb
     exact ⟨b2, hl0 (by rw [b1]; simp), by rw [q11, hpz (by rw [b1]; simp)]; exact (h.pnd b b1).2.2⟩
    rw [← List.append_assoc, q10, List.append_assoc, hMF]; exact hi2
   unfold wpOpIn
   simp only [List.getElem?_toArray, ho]
   by_cases hz : i = i0
   ·rw [if_pos hz] at he
    have hpd0 : pd = none := by
     cases hq : pd with
     | none => rfl
     | some b => exact absurd hz (hpd b hq).1
    obtain ⟨hg, hop⟩ := hfree o (by rw [← hz]; exact ho)
    rw [if_pos (by simp [Region.wanted, hg])]
    refine wp_exits (Oper.wpIn_mono ?_ (hop n B F0 (M ++ MF) a w (by simpa using m2) ⟨h.tmps, fun t v e => by simp at e⟩ ro))
    rintro a' w' ⟨u, v, M', F2, rfl, ⟨b, rfl, rfl⟩, hr, hF2, hi2, hb2⟩
    refine fin u (.ptr b 0) F2 w' (M ++ [.loc b cs0]) hr hF2 (hi2.perm ?_) hb2 L (he b) (fun x hx => by have := h.lenL x hx; simp; omega) (fun i' fp hl' hfp => .inl ⟨fpm_app (fun p hp => h.lenL (i', p) (hfp p hp)), hfp⟩)
    have : (Res.loc b cs0 :: (M ++ MF)).Perm (M ++ Res.loc b cs0 :: MF) := List.perm_middle.symm
    simpa using this
   rw [if_neg hz, if_pos (by simpa using hiw)] at he
   obtain ⟨hg, he⟩ := he
   rw [if_pos (by simp [Region.wanted, hg])]
   rcases he with ⟨k, r, hk, hL, hop⟩ | hop
   ·have hperm : (M ++ MF).Perm ([r] ++ (M.eraseIdx k ++ MF)) := by
     have := (perm_at hk).append_right MF
     simpa using this
    have hkl : k < M.length := Vf hk
    refine wp_exits (Oper.wpIn_mono ?_ (hop n B F0 (M.eraseIdx k ++ MF) a w (m2.perm hperm) hslots ro))
    rintro a' w' ⟨u, v, M', F2, rfl, ⟨r', rfl, heo⟩, hr, hF2, hi2, hb2⟩
    refine fin u v F2 w' (M.set k r') hr hF2 (hi2.perm ?_) hb2 L heo (by simpa using h.lenL) (fun i' fp hl' hfp => ?_)
    ·have := ((perm_set r' hkl).append_right MF).symm
     simpa using this
    cases fp with
    | none => exact Or.inl ⟨rfl, hfp⟩
    | some p =>
     by_cases e : p = k
     ·right
      have := List.all_eq_true.1 hL (i', p) (hfp p rfl)
      simpa [e] using this
     left
     refine ⟨?_, hfp⟩
     simp only [fpm]
     rw [List.getElem?_set_ne (fun q => e q.symm)]
   refine wp_exits (Oper.wpIn_mono ?_ (hop n B F0 (M ++ MF) a w (by simpa using m2) hslots ro))
   rintro a' w' ⟨u, v, M', F2, rfl, heo, hr, hF2, hi2, hb2⟩
   refine fin u v F2 w' (M ++ M') hr hF2 (hi2.perm ?_) hb2 L heo (fun x hx => by have := h.lenL x hx; simp; omega) (fun i' fp hl' hfp => ?_)
   ·rw [List.append_assoc]
    exact (List.perm_append_comm_assoc _ _ _)
   exact .inl ⟨fpm_app (fun p hp => h.lenL (i', p) (hfp p hp)), hfp⟩
  -- an operation that does not write: it has been gone through
  obtain ⟨MF, hMF⟩ : ∃ MF, pdM cs0 pd ++ Mf = MF := ⟨_, rfl⟩
  rw [hMF] at m2
  have hiz : i ≠ i0 := fun e => hiw (by rw [e]; exact hfl.free)
  have hipr : i ∈ pr := by
   have := hio
   rw [h.ord] at this
   rcases List.mem_append.1 this with k | k
   ·exact k
   exfalso
   rcases h.next with q | ⟨j, r, q, hjw, qz⟩
   ·rw [q] at k; simp at k
   have hsp : ord = pr ++ j :: r := by rw [h.ord, q]
   rw [q] at k
   rcases List.mem_cons.1 k with e | e
   ·subst e; exact hiw hjw
   have hb := (befo_split hfl.nodup hsp (k := i)).2 e
   rcases hfl.wild j hjw i hil with k | k | k | k
   ·subst k; exact hiw hjw
   ·rw [hb] at k; simp at k
   ·rcases h.done j (hanc j k) with this | this
    ·have hnd := hfl.nodup
     rw [hsp, List.nodup_append] at hnd
     exact hnd.2.2 j this j (by simp) V
    exact this.2 (qz this.1)
   exact hiz k
  obtain ⟨p1, p2, hp⟩ := List.append_of_mem hipr
  obtain ⟨o', fp, ho', hfp, hst⟩ := h.steps p1 i p2 hp hiw hni
  rw [ho] at ho'; simp at ho'; subst ho'
  have hsp : ord = p1 ++ i :: (p2 ++ rest) := by rw [h.ord, hp]; simp
  have hsees := seesF (pv := pv) hfl h.size h.closed m4 m5 ho hni hrd hsp
  have hslots : Slots n F0 ((putsI l pv p1 al).only (Oper.tmps o)) a.tmps := by
   refine ⟨h.tmps, fun t v' e => ?_⟩
   rw [only_lookup] at e
   split at e
   ·rename_i hc
    exact hsees t (by unfold Oper.sees; exact List.mem_append_left _ (by simpa using hc)) v' e
   simp at e
  have hperm : ∃ Mr, (M ++ MF).Perm (fpm M fp ++ (Mr ++ MF)) ∧ M.Perm (fpm M fp ++ Mr) := by
   cases fp with
   | none => exact ⟨M, by simp [fpm], by simp [fpm]⟩
   | some k =>
    cases hk : M[k]? with
    | none => exact ⟨M, by simp [fpm, hk], by simp [fpm, hk]⟩
    | some r =>
     have := perm_at hk
     refine ⟨M.eraseIdx k, ?_, by simpa [fpm, hk] using this⟩
     have := this.append_right MF
     simpa [fpm, hk] using this
  obtain ⟨Mr, hp1, hp2⟩ := hperm
  have next : ∀ (u : Value) (F2 : EH) (w' : World), Rel F2 (pv i) u → Ext F0 F2 → Inv B F2 (M ++ MF) w' → Below B w w' → wpAnyIn (RF ro) 0 P .any l.toArray Q fuel (lis.setIfInBounds i true) (a.put o.dst u) w' := by
   intro u F2 w' hr hF2 hi2 hb2
   obtain ⟨s1, s2⟩ := slots_nextF (al := al) hfl ho hni h.tmps hF2 (pv := pv) (pv' := pv) hr (fun _ _ => rfl) m4 m5
   refine ih _ _ _ pr rest pv M L pd hcount ⟨by simpa using h.size, hclosed, by cases o.dst <;> exact h.defers, by cases o.dst <;> simp [Act.put, h.tmps], h.ord, fun k hk => ?_, fun k hk hkw => ?_, fun b hb => ?_, h.next, h.eops, h.lenL, fun q1 j q2 hq hj hl => h.steps q1 j q2 hq hj (hone j hl), F2, m1.trans hF2, by rw [hMF]; exact hi2, m3.trans hb2, s1, s2⟩
   ·rw [Wy hni] at hk
    split at hk
    ·rename_i e; subst e; exact .inl hipr
    exact h.done k hk
   ·rw [Wy hni, h.wild k hk hkw]; split <;> rfl
   obtain ⟨b1, b2, b3⟩ := h.pnd b hb
   exact ⟨b1, by rw [Wy hni, b2]; split <;> rfl, b3⟩
  have done : ∀ (o' : Oper), o'.dst = o.dst → OpT P o' ((putsI l pv p1 al).only (Oper.tmps o)) (fpm M fp) (fun v' M' => v' = pv i ∧ M' = fpm M fp) → o'.wpIn (RF ro) 0 P a w (wpAnyIn (RF ro) 0 P .any l.toArray Q fuel (lis.setIfInBounds i true)) Q := by
   intro o' hd' hop
   refine wp_exits (Oper.wpIn_mono ?_ (hop n B F0 (Mr ++ MF) a w (m2.perm hp1) hslots ro))
   rintro a' w' ⟨u, v', M', F2, rfl, ⟨rfl, rfl⟩, hr, hF2, hi2, hb2⟩
   rw [hd']
   exact next u F2 w' hr hF2 (hi2.perm hp1.symm) hb2
  have skip : pv i = .val undef → wpAnyIn (RF ro) 0 P .any l.toArray Q fuel (lis.setIfInBounds i true) (a.put o.dst undef) w := by
   intro e
   exact next undef F0 w (by rw [e]; exact .val _) (Ext.refl _) m2 (Below.refl _ _)
  unfold wpOpIn
  simp only [List.getElem?_toArray, ho]
  unfold DStep at hst
  cases hg : o.guard with
  | none =>
   rw [hg] at hst
   rw [if_pos (by simp [Region.wanted, hg])]
   exact done o V hst
  | some gb =>
   obtain ⟨g, b⟩ := gb
   rw [hg] at hst
   obtain ⟨t, ht, hst⟩ := hst
   have htin : t ∈ Oper.sees l o := by
    unfold Oper.sees
    rw [hg]
    exact List.mem_append_right _ (by simp [ht])
   have slot : ∀ x, (putsI l pv p1 al).lookup t = some (.val x) → a.tmps[t]? = some x := by
    intro x hx
    obtain ⟨q1, q2⟩ := hsees t htin _ hx
    have h4 : t < a.tmps.size := by rw [h.tmps]; exact q1
    generalize hy : a.tmps.getD t undef = y at q2
    cases q2
    rw [Array.getElem?_eq_getElem h4]
    simpa [Array.getD, h4] using hy
   have want : ∀ x, a.tmps[t]? = some x → Region.wanted o (yielded l.toArray a.tmps) = ((match some x with | some (.bool b) => some b | _ => none) == some b) := by
    intro x hx
    simp only [Region.wanted, hg, yielded, List.getElem?_toArray, ht, Option.bind_some, hx]
    cases x <;> rfl
   rcases hst with ⟨h1, h2⟩ | ⟨h1, h2⟩
   ·rw [if_pos (by rw [want _ (slot _ h1)]; simp)]
    exact done { o with guard := none } rfl h2
   rcases h1 with h1 | h1
   ·rw [if_neg (by rw [want _ (slot _ h1)]; cases b <;> simp)]
    exact ⟨fun _ _ => trivial, skip h2⟩
   rw [if_neg (by rw [want _ (slot _ h1)]; simp [undef])]
   exact ⟨fun _ _ => trivial, skip h2⟩
theorem ACode.drawnEF {ro : Option Nat} {Q : Exit → Sl → Mem → Prop} {id : Nat} {M : Mem} (ord ws : List Nat) (anc : List (List Nat)) (i0 : Nat) {cs0 : List AV} {o0 : Oper} {t : TypeId} {z : Value} (hmix : P.follows .mixedOrders = true) (hfl : flowEF n l ord ws anc i0 = true) (h0 : l[i0]? = some o0) (hg0 : o0.guard = none) (hop : o0.op = .alloc t) (hz : tyZero P t = some z) (hf : (AV.val z).flat = true) (hc : (AV.val z).cells = cs0) (h : EOpsF P l ws anc i0 cs0 (Q .normal) ord al M []) : ACode ro P n (.region id l.toArray true) Q al M := by
 intro B F Mf a w hi hs
 have hF := FlowEF.of hfl
 have hfree : ∀ o, l[i0]? = some o → o.guard = none ∧ OpT P o [] [] (fun v M' => ∃ b, v = .ptr b 0 ∧ M' = [.loc b cs0]) := fun o ho => by
  rw [h0] at ho; simp at ho; subst ho
  exact ⟨hg0, Zy (M := []) hop hz hf hc (fun b => ⟨b, V, V⟩)⟩
 obtain ⟨pr, rest, pv, L, M', pd, q1, q2, q3, q0, _, q5, _, q7, q8, _, q10, _⟩ := advanceF (P := P) (QQ := Q .normal) (al := al) (anc := anc) (l := l) (ws := ws) (cs0 := cs0) hF.nodup hF.free (Array.replicate l.length false) ord [] (fun _ => .val undef) [] M none rfl (fun b hb => by simp at hb) h (by simp) (by intro p1 i p2 e; simp at e)
 have hpd : pd = none := by
  cases hq : pd with
  | none => rfl
  | some b => have := (q8 b hq).1; simp at this
 subst hpd
 simp only [pdM, List.append_nil] at q10
 subst q10
 refine wpIn_region_any hmix (region_flowEF (ds := a.defers) (P := P) (QQ := Q .normal) (al := al) (B := B) (F := F) (Mf := Mf) (w0 := w) (cs0 := cs0) hF hfree ?_ _ _ _ _ pr rest pv M' L none ?_ ?_)
 ·intro a' w' pr pv M L hat
  obtain ⟨F', m1, m2, m3, m4, m5⟩ := hat.mem
  have he := hat.eops
  refine ⟨[], F', _, M, he, m1, by simpa [pdM] using m2, ⟨hat.tmps, fun t v e => ?_⟩, hat.defers, m3⟩
  have hall : ∀ j, j < l.length → (Array.replicate l.length true)[j]? = some true := fun j hj => by simp [hj]
  rcases putsI_lookup l pv pr al t with ⟨j, o, k0, k1, k3, k4⟩ | ⟨k1, k2⟩
  ·rw [k4] at e
   simp at e; subst e
   exact m5 j o t k1 k3 (hall j (Vf k1))
  rw [k2] at e
  refine m4 t v e (fun j o hj hdj => ?_)
  rcases hat.done j (hall j (Vf hj)) with q | q
  ·exact absurd hdj (k1 j o q hj)
  exact absurd V q.2
 ·have := List.length_filter_le (fun j => !((Array.replicate l.length false)[j]? == some true)) (List.range l.length)
  simpa using this
 have hno : ∀ k : Nat, (Array.replicate l.length false)[k]? ≠ some true := by
  intro k hk
  rw [Array.getElem?_replicate] at hk; split at hk <;> simp at hk
 refine ⟨by simp, fun k o hk hlk => absurd hlk (hno k), V, hs.1, q1, fun k hk => absurd hk (hno k), fun k hk hkw => ?_, fun b hb => by simp at hb, q2, q3, q0, q7, F, Ext.refl F, by simpa [pdM] using hi.drew, (Below.refl _ _).drew, fun t v e _ => hs.2 t v e, fun j o t hj _ hlj => absurd hlj (hno j)⟩
 have := q5 k hk hkw
 simp at this
theorem c_drawnEF {ro : Option Nat} {ks : List Kont} {Q : Exit → Sl → Mem → Prop} {id : Nat} {M : Mem} (ord ws : List Nat) (anc : List (List Nat)) (i0 : Nat) {cs0 : List AV} {o0 : Oper} {t : TypeId} {z : Value} (hmix : P.follows .mixedOrders = true) (hfl : flowEF n l ord ws anc i0 = true) (h0 : l[i0]? = some o0) (hg0 : o0.guard = none) (hop : o0.op = .alloc t) (hz : tyZero P t = some z) (hf : (AV.val z).flat = true) (hc : (AV.val z).cells = cs0) (h : EOpsF P l ws anc i0 cs0 (AGo ro P n ks Q) ord al M []) : ACode ro P n (.region id l.toArray true) (after ro P n ks Q) al M := ACode.drawnEF ord ws anc i0 hmix hfl h0 hg0 hop hz hf hc h
variable {M : Mem} {L : List (Nat × Nat)} {o : Oper}
theorem EOpsF.d {v : AV} {i : Nat} (d : Nat) (fp : Option Nat) (hz : Nat.beq i i0 = false) (hi : l[i]? = some o) (hw : ws.contains i = false) (hg : o.guard = none) (hd : o.dst = some d) (hfp : fp.all (fun k => Nat.blt k M.length) = true) (h : OpT P o (al.only (Oper.tmps o)) (fpm M fp) (fun v' M' => v' = v ∧ M' = fpm M fp)) (q : EOpsF P l ws anc i0 cs0 QQ ord ((d, v) :: al) M ((fp.toList.map fun k => (i, k)) ++ L)) : EOpsF P l ws anc i0 cs0 QQ (i :: ord) al M L :=
 ⟨o, hi, by rw [if_neg (Nat.ne_of_beq_eq_false hz), if_neg (by rw [hw]; simp)]; exact ⟨fp, v, hfp, by unfold DStep; rw [hg]; exact h, by rw [hd]; exact q⟩⟩
theorem EOpsF.w {i : Nat} {r : Res} (k : Nat) (hz : Nat.beq i i0 = false) (hi : l[i]? = some o) (hw : ws.contains i = true) (hg : o.guard = none) (hr : M[k]? = some r) (hL : (L.all fun x => x.2 != k || (anc.getD i []).contains x.1) = true) (h : OpT P o (al.only (Oper.tmps o)) [r] (fun v M' => ∃ r', M' = [r'] ∧ EOpsF P l ws anc i0 cs0 QQ ord (al.put o.dst v) (M.set k r') L)) : EOpsF P l ws anc i0 cs0 QQ (i :: ord) al M L :=
 ⟨o, hi, by rw [if_neg (Nat.ne_of_beq_eq_false hz), if_pos hw]; exact ⟨hg, .inl ⟨k, r, hr, hL, h⟩⟩⟩
theorem EOpsF.nw {i : Nat} (hz : Nat.beq i i0 = false) (hi : l[i]? = some o) (hw : ws.contains i = true) (hg : o.guard = none) (h : OpT P o (al.only (Oper.tmps o)) [] (fun v M' => ∃ r', M' = [r'] ∧ EOpsF P l ws anc i0 cs0 QQ ord (al.put o.dst v) (M ++ [r']) L)) : EOpsF P l ws anc i0 cs0 QQ (i :: ord) al M L :=
 ⟨o, hi, by rw [if_neg (Nat.ne_of_beq_eq_false hz), if_pos hw]; exact ⟨hg, .inr (OpT.mono h (by rintro v M' ⟨r', rfl, h⟩; exact h))⟩⟩
theorem EOpsF.free {i d : Nat} (hz : i = i0) (hi : l[i]? = some o) (hd : o.dst = some d) (q : ∀ b, EOpsF P l ws anc i0 cs0 QQ ord ((d, .ptr b 0) :: al) (M ++ [.loc b cs0]) L) : EOpsF P l ws anc i0 cs0 QQ (i :: ord) al M L :=
 ⟨o, hi, by rw [if_pos hz, hd]; exact q⟩

end
theorem head_c (v : En) (x : In) (hb : x.hd.kids.length ≤ 1000000) : PCall Tryz.prog 90 [.agg v.cells, .agg x.cells] (.val (.int .i64 (headR v x))) := by
 have HV := (vars_c x hb).pure
 have HA := Arity_c v x.hd.name
 obtain ⟨r, hr⟩ : ∃ r, headR v x = r := ⟨_, rfl⟩
 rw [hr]
 unfold headR at hr
 obtain ⟨ar, har⟩ : ∃ r, arityR v x.hd.name = r := ⟨_, rfl⟩
 rw [har] at hr HA
 obtain ⟨da, cl, ins⟩ := v
 obtain ⟨xc, ⟨hk, hs, hn, hl⟩, xcx, xbs, xp⟩ := x
 have hll := Ty.cellss_len hl
 have hb : hl.length ≤ 1000000 := hb
 have hr : (if hk ≠ 3 ∨ hs = kArrow ∨ ar < 0 then 127 else if ar ≠ hl.length then 122 else headL [] hl) = r := hr
 have hvr : varsR (In.mk xc (Ty.mk hk hs hn hl) xcx xbs xp) = hl.map Ty.name := rfl
 rw [hvr] at HV
 simp only [En.cells, In.cells, Ty.cells, List.cons_append, List.nil_append, In.hd, Ty.name] at HV HA ⊢
 have hlv := Xt (hl.map Ty.name)
 rw [List.length_map] at hlv
 refine Zw Tryz.func90 V (by kernel_rfl) V (Uf V) ?_
 refine Yf (Zg (Zc (Za 2 V V V (Ys (cs' := [_, _, _]) V V V V (Za 3 V V V (Ys (cs' := [_, _, _, _, _, _, _, _]) V V V V (Za 4 V V V (Ze V V (Vs (Zb (Zg (Zg (Xl 24 (hk ≠ 3 ∨ hs = kArrow ∨ ar < 0) ?_ _ _ V ?_)))))))))))))
 ·skip
  refine Za 7 V V V (Zj V Vd V V (Za 8 V V V (Zj V tf_25_0 V V (Za 9 V V V (Zo V Xa V V (Za 10 V V V (Xq V V V ?_))))))); intro c10 h10
  refine Za 11 V V V (Zd V V ?_)
  rcases Zi h10 with ⟨rfl, g10⟩ | ⟨rfl, g10⟩
  ·skip
   refine Zl 12 V V V V V (Zj V Vd V V (Zl 13 V V V V V (Zj V Wp V V (Zl 14 V V V V V (Zo V Xb V V (Zl 15 V V V V V (Xx V V V ?_))))))); intro c15 h15
   refine Za 16 V V V (Zn V V V (Za 17 V V V (Zd V V ?_)))
   rcases Zi h15 with ⟨rfl, g15⟩ | ⟨rfl, g15⟩
   ·skip
    refine Zl 18 V V V V V (Yc (cs' := [_, _, _]) V Xw V V V (Zl 19 V V V V V (Zj V Vd V V (Zl 20 V V V V V (Zj V Wp V V (Zl 21 V V V V V (Zo V Xb V V (Zl 22 V V V V V (Ym (xs := [.tmp 18, .tmp 21]) V V (HA) by1 ?_)))))))))
    refine Zl 23 V V V V V (Yu V V V ?_); intro c23 h23
    refine Za 24 V V V (Zn V V V (Vs (Ud V ?_ by5 by3)))
    clear HV HA; first | (simp_all; done) | (simp_all; omega) | grind
   skip
   refine Zk 18 V V V V V (Zk 19 V V V V V (Zk 20 V V V V V (Zk 21 V V V V V (Zk 22 V V V V V (Zk 23 V V V V V (Za 24 V V V (Zn V V V (Vs (Ud V ?_ by5 by3)))))))))
   clear HV HA; first | (simp_all; done) | (simp_all; omega) | grind
  skip
  refine Zk 12 V V V V V (Zk 13 V V V V V (Zk 14 V V V V V (Zk 15 V V V V V (Za 16 V V V (Zn V V V (Za 17 V V V (Zd V V (Zk 18 V V V V V (Zk 19 V V V V V (Zk 20 V V V V V (Zk 21 V V V V V (Zk 22 V V V V V (Zk 23 V V V V V ?_)))))))))))))
  refine Za 24 V V V (Zn V V V (Vs (Ud V ?_ by5 by3)))
  clear HV HA; first | (simp_all; done) | (simp_all; omega) | grind
 intro c24 h24
 refine Zb ?_
 rcases Zi h24 with ⟨rfl, g24⟩ | ⟨rfl, g24⟩
 ·refine Zr V (Zv (Zb (Zg (Zg ?_))))
  rw [if_neg g24] at hr
  refine Vl Wo V (Zm 25 V V (Yc (cs' := [_, _, _]) V Xw V V V ⟨V, V⟩) ?_)
  refine Zm 26 V V (Zj V Vd V V ⟨V, V⟩) ?_
  refine Zm 27 V V (Zj V Wp V V ⟨V, V⟩) ?_
  refine Zm 28 V V (Zo V Xb V V ⟨V, V⟩) ?_
  refine Zm 29 V V (Ym (xs := [.tmp 25, .tmp 28]) V V (HA) by1 ⟨V, V⟩) ?_
  refine Zm 30 V V (Zj V Vd V V ⟨V, V⟩) ?_
  refine Zm 31 V V (Zj V Wc V V ⟨V, V⟩) ?_
  refine Zm 32 V V (Zo V Vg V V ⟨V, V⟩) ?_
  refine Zm 33 V V (Yy V tu_23 V (.seq _ _) (fun _ => ⟨V, V⟩)) ?_
  refine Wd 34 V V (fun _ q => Xq V V V q) ?_; intro c34 h34
  show AGo _ _ _ _ _ _ _
  refine Zb ?_
  rcases Zi h34 with ⟨rfl, g34⟩ | ⟨rfl, g34⟩
  ·refine Zr V (Zv (Zb (Zg ?_)))
   rw [if_neg (by omega)] at hr
   refine Zc (Za 35 V V V (Yc (cs' := [_, _, _, _, _, _, _, _]) V ta_73 V V V (Za 36 V V V (Ym (xs := [.tmp 35]) V V (HV) by1 ?_))))
   refine Za 5 V V V (Ze V V (Vs (Zb (Zg (Zg (Zc (Za 6 V V V (Ze V V (Vs (Zb (Zz ?_)))))))))))
   apply Xm [0, 1, 2, 4, 6, 7, 8, 9, 10, 11, 12, 13, 14, 15, 16, 17, 18, 19, 20, 21, 22, 23, 24, 25, 26, 27, 28, 29, 30, 31, 32, 33, 34, 35, 36, 37, 38, 39, 40, 41, 42, 43, 44, 45, 46, 47, 48, 49, 50, 51, 52, 53, 54, 55, 56, 57, 58, 59, 60, 61, 62, 63, 64, 65, 66, 67, 68, 69, 70, 71] (σ := Nat) (fun zz => match zz with | i => [(6, .val (.int .i64 i))]) (fun zz => match zz with | i => i ≤ hl.length ∧ headL ((hl.take i).map Ty.name) (hl.drop i) = r) (fun zz => match zz with | i => hl.length - i) (0)
   ·repeat' (first | exact Ui | apply Ug rfl | apply Uh rfl)
   ·exact ⟨Nat.zero_le _, hr⟩
   ·exact by4
   rintro i hI
   try dsimp only [List.cons_append, List.nil_append] at hI ⊢
   obtain ⟨h1, hu⟩ := hI
   refine Zg (Zg (Zc (Za 37 V V V (Zd V V (Za 38 V V V (Zd V V ?_))))))
   refine Za 39 V V V (Yy V tu_68 V (.seq _ _) (fun n39 => ?_))
   refine Za 40 V V V (Yu V V V ?_); intro c40 h40
   refine Vs (Zb ?_)
   rcases Zi h40 with ⟨rfl, g40⟩ | ⟨rfl, g40⟩
   ·refine Zr V (Xc (Xe (Xv (Xd (Zb (Zg (Zc (Za 4 V V V (Ze V V (Vs (Zb (Ya ?_))))))))))))
    rw [Ul (by omega), headL] at hu; exact Yh rfl rfl (Vz _) by3 ⟨by rw [← hu], rfl⟩
   refine Zt V (Zv (Zb (Zg (Zz (Zg ?_)))))
   obtain ⟨⟨tk, ts, tn, tl⟩, hx⟩ := Yw (l := hl) (i := i) (by omega)
   have hcx := Ty.cellss_get hx
   have hsn := Wl hx
   have hcn := strs_get (xs := hl.map Ty.name) (i := i) (s := ts) (by rw [List.getElem?_map, hx]; rfl)
   have htl := Ty.cellss_len tl
   rw [Xp hx, headL] at hu
   have hu : (if tk ≠ 1 ∨ 0 < tl.length ∨ hasB ((hl.take i).map Ty.name) ts = true then 127 else headL ((hl.take i).map Ty.name ++ [ts]) (hl.drop (i + 1))) = r := hu
   have HH := Has_c ((hl.take i).map Ty.name) ts
   rw [List.map_take, ← strs_take] at HH
   simp only [Ty.cells] at hcx
   refine Vk 71 (tk ≠ 1 ∨ 0 < tl.length ∨ ts ∈ (hl.map Ty.name).take i) Wo V ?_ _ _ V ?_
   ·skip
    refine Zm 43 V V (Zj V Vd V V ⟨V, V⟩) ?_
    refine Zm 44 V V (Zj V Wc V V ⟨V, V⟩) ?_
    refine Zm 45 V V (Zo V Vg V V ⟨V, V⟩) ?_
    refine Zm 46 V V (Zd V V ⟨V, V⟩) ?_
    refine Zm 47 V V (Yd V te_23 V (.seq _ _) V V (by first | exact hcx | exact hcn) ⟨V, V⟩) ?_
    refine Zm 48 V V (Zj V tf_25_0 V V ⟨V, V⟩) ?_
    refine Zm 49 V V (Zo V Xa V V ⟨V, V⟩) ?_
    refine Wd 50 V V (fun _ q => Xq V V V q) ?_; intro c50 h50
    refine Zm 51 V V (Zd V V ⟨V, V⟩) ?_
    rcases Zi h50 with ⟨rfl, g50⟩ | ⟨rfl, g50⟩
    ·skip
     refine Zu 52 V V V V (Zj V Vd V V ⟨V, V⟩) ?_
     refine Zu 53 V V V V (Zj V Wc V V ⟨V, V⟩) ?_
     refine Zu 54 V V V V (Zo V Vg V V ⟨V, V⟩) ?_
     refine Zu 55 V V V V (Zd V V ⟨V, V⟩) ?_
     refine Zu 56 V V V V (Yd V te_23 V (.seq _ _) V V (by first | exact hcx | exact hcn) ⟨V, V⟩) ?_
     refine Zu 57 V V V V (Zj V Wc V V ⟨V, V⟩) ?_
     refine Zu 58 V V V V (Zo V Vg V V ⟨V, V⟩) ?_
     refine Zu 59 V V V V (Yy V tu_23 V (.seq _ _) (fun _ => ⟨V, V⟩)) ?_
     refine Xi 60 V V V V (fun _ q => Ww V V V q) ?_; intro c60 h60
     refine Zm 61 V V (Zn V V V ⟨V, V⟩) ?_
     refine Zm 62 V V (Zd V V ⟨V, V⟩) ?_
     rcases Zi h60 with ⟨rfl, g60⟩ | ⟨rfl, g60⟩
     ·skip
      refine Zu 63 V V V V (Zd V V ⟨V, V⟩) ?_
      refine Zu 64 V V V V (Zd V V ⟨V, V⟩) ?_
      refine Zu 65 V V V V (op_cuth V te_68 V (.seq _ _) V V (by omega) ⟨V, V⟩) ?_
      refine Zu 66 V V V V (Zd V V ⟨V, V⟩) ?_
      refine Zu 67 V V V V (Zd V V ⟨V, V⟩) ?_
      refine Zu 68 V V V V (Yd V te_68 V (.seq _ _) V V (by first | exact hcx | exact hcn) ⟨V, V⟩) ?_
      refine Zu 69 V V V V (Zo V Xb V V ⟨V, V⟩) ?_
      refine Xi 70 V V V V (fun _ q => Yg (xs := [.tmp 65, .tmp 69]) V V (HH) by1 q) ?_; intro c70 h70
      refine Zm 71 V V (Zn V V V ⟨V, V⟩) ?_
      show BoolQ _ _ _ _ _ _
      refine Ud V ?_ by5 by3
      clear HV HA HH; first | (simp_all; done) | (simp_all; omega) | grind
     skip
     refine Zf 63 V V V V (Zf 64 V V V V (Zf 65 V V V V (Zf 66 V V V V (Zf 67 V V V V (Zf 68 V V V V (Zf 69 V V V V (Zf 70 V V V V (Zm 71 V V (Zn V V V ⟨V, V⟩) ?_))))))))
     show BoolQ _ _ _ _ _ _
     refine Ud V ?_ by5 by3
     clear HV HA HH; first | (simp_all; done) | (simp_all; omega) | grind
    skip
    refine Zf 52 V V V V (Zf 53 V V V V (Zf 54 V V V V (Zf 55 V V V V (Zf 56 V V V V (Zf 57 V V V V (Zf 58 V V V V (Zf 59 V V V V (Zf 60 V V V V (Zm 61 V V (Zn V V V ⟨V, V⟩) ?_)))))))))
    refine Zm 62 V V (Zd V V ⟨V, V⟩) ?_
    refine Zf 63 V V V V (Zf 64 V V V V (Zf 65 V V V V (Zf 66 V V V V (Zf 67 V V V V (Zf 68 V V V V (Zf 69 V V V V (Zf 70 V V V V (Zm 71 V V (Zn V V V ⟨V, V⟩) ?_))))))))
    show BoolQ _ _ _ _ _ _
    refine Ud V ?_ by5 by3
    clear HV HA HH; first | (simp_all; done) | (simp_all; omega) | grind
   intro c71 h71
   refine Zb ?_
   rcases Zi h71 with ⟨rfl, g71⟩ | ⟨rfl, g71⟩
   ·refine Zr V (Zv (Yt (Zb (Zc (Za 41 V V V (Zd V V (Za 42 V V V (Yx V V V (Uj _ (by omega)) ?_))))))))
    refine Za 6 V V V (Ze V V (Vs (Yz ?_)))
    rw [if_neg (fun q => g71 (q.imp_right (fun h => h.imp_right (fun e => by rw [← List.map_take]; exact hasB_iff.1 e))))] at hu; exact ⟨i + 1, ⟨by omega, by rw [hsn, List.map_append]; exact hu⟩, by show hl.length - (i + 1) < hl.length - i; omega, by4, by3⟩
   refine Zt V (Zg (Zc (Za 4 V V V (Ze V V (Vs (Zb (Ya ?_)))))))
   rw [if_pos (g71.imp_right (fun h => h.imp_right (fun e => hasB_iff.2 (by rw [List.map_take]; exact e))))] at hu; exact Yh rfl rfl (Vz _) by3 ⟨by rw [hu], rfl⟩
  refine Zt V (Zg (Zc (Za 4 V V V (Ze V V (Vs (Zb (Ya ?_)))))))
  rw [if_pos (by omega)] at hr; exact Yh rfl rfl (Vz _) by3 ⟨by rw [hr], rfl⟩
 refine Zt V (Zg (Zc (Za 4 V V V (Ze V V (Vs (Zb (Ya ?_)))))))
 rw [if_pos g24] at hr; exact Yh rfl rfl (Vz _) by3 ⟨by rw [hr], rfl⟩
theorem ctx_c11 (v : En) (x : In) (hb : x.hd.kids.length ≤ 1000000) (hcx : x.cx.length ≤ 1000000) : PCall Tryz.prog 92 [.agg v.cells, .agg x.cells] (.val (.int .i64 (ctxR v x))) := by
 have HV := (vars_c x hb).pure
 have HC := fun c => Class_c v c
 obtain ⟨r, hr⟩ : ∃ r, ctxR v x = r := ⟨_, rfl⟩
 rw [hr]
 unfold ctxR at hr
 obtain ⟨ns, hns⟩ : ∃ l, varsR x = l := ⟨_, rfl⟩
 rw [hns] at hr HV
 obtain ⟨da, cl, ins⟩ := v
 obtain ⟨xc, ⟨hk, hs, hn, hl⟩, cx, xbs, xp⟩ := x
 have hll := Pr.cellss_len cx
 have hcx : cx.length ≤ 1000000 := hcx
 have hr : ctxL0 (En.mk da cl ins) ns [] cx = r := hr
 simp only [En.cells, In.cells, Ty.cells, List.cons_append, List.nil_append] at HV HC ⊢
 refine Zw Tryz.func92 V (by kernel_rfl) V (Uf V) ?_
 refine Yf (Zg (Zc (Za 2 V V V (Ys (cs' := [_, _, _]) V V V V (Za 3 V V V (Ys (cs' := [_, _, _, _, _, _, _, _]) V V V V (Za 4 V V V (Ze V V (Vs (Zb (Zg (Zg (Zc (Za 5 V V V (Ze V V (Vs (Zb (Zz ?_))))))))))))))))))
 apply Xm [0, 1, 4, 5, 6, 7, 8, 9, 10, 11, 12, 13, 14, 15, 16, 17, 18, 19, 20, 21, 22, 23, 24, 25, 26, 27, 28, 29, 30, 31, 32, 33, 34, 35, 36, 37, 38, 39, 40, 41, 42, 43, 44, 45, 46, 47, 48, 49, 50, 51, 52, 53, 54, 55, 56, 57, 58, 59, 60, 61, 62, 63, 64] (σ := Nat) (fun zz => match zz with | i => [(5, .val (.int .i64 i))]) (fun zz => match zz with | i => i ≤ cx.length ∧ ctxL0 (En.mk da cl ins) ns (cx.take i) (cx.drop i) = r) (fun zz => match zz with | i => cx.length - i) (0)
 ·repeat' (first | exact Ui | apply Ug rfl | apply Uh rfl)
 ·exact ⟨Nat.zero_le _, hr⟩
 ·exact by4
 rintro i hI
 try dsimp only [List.cons_append, List.nil_append] at hI ⊢
 obtain ⟨h1, hu⟩ := hI
 refine Zg (Zg (Zc (Za 8 V V V (Zd V V (Za 9 V V V (Zj V tf_73_2 V V (Za 10 V V V (Zo V ta_22 V V ?_))))))))
 refine Za 11 V V V (Yy V tu_22 V (.seq _ _) (fun n11 => ?_))
 refine Za 12 V V V (Yu V V V ?_); intro c12 h12
 refine Vs (Zb ?_)
 rcases Zi h12 with ⟨rfl, g12⟩ | ⟨rfl, g12⟩
 ·refine Zr V (Xc (Xe (Xv (Xd (Zb (Zg (Zc (Za 4 V V V (Ze V V (Vs (Zb (Ya ?_))))))))))))
  rw [Ul (by omega), ctxL0] at hu; exact Yh rfl rfl (Vz _) by3 ⟨by rw [← hu], rfl⟩
 refine Zt V (Zv (Zb (Zg (Zz (Zg ?_)))))
 obtain ⟨⟨pc, ⟨tk, ts, tn, tl⟩⟩, hx⟩ := Yw (l := cx) (i := i) (by omega)
 have hcp := Pr.cellss_get hx
 have hsn := Wl hx
 rw [Xp hx, ctxL0] at hu
 have hu : (if classI (En.mk da cl ins) pc < 0 then 121 else if tk ≠ 1 ∨ hasB ns ts = false then 123 else if ((cx.take i).any fun q => sameB q.c pc && sameB q.t.name ts) = true then 120 else ctxL0 (En.mk da cl ins) ns (cx.take i ++ [Pr.mk pc (Ty.mk tk ts tn tl)]) (cx.drop (i + 1))) = r := hu
 simp only [Pr.cells, Ty.cells] at hcp
 have HH := Has_c ns ts
 refine Zc (Za 15 V V V (Zj V tf_73_2 V V (Za 16 V V V (Zo V ta_22 V V (Za 17 V V V (Zd V V (Za 18 V V V (Yd V te_22 V (.seq _ _) V V (hcp) (Za 19 V V V (Yc (cs' := [_, _, _, _, _]) V ta_27 V V V (Za 6 V V V (Zy (cs' := [_, _, _, _, _]) V tz_27 V V ?_)))))))))))); intro b6
 refine Zs V V (Zq (cs' := [_, _, _, _, _]) (i := 0) V ts_27 V V V V V (Uf V) V (Vs (Zb (Zg (Zg (Zc (Za 20 V V V (Yc (cs' := [_, _, _]) V Xw V V V (Za 21 V V V (Zh V Vb V (Za 22 V V V (Zp (i := 0) V Xb V V V (Za 23 V V V (Ym (xs := [.tmp 20, .tmp 22]) V V (HC pc) by1 ?_))))))))))))))
 refine Za 24 V V V (Yu V V V ?_); intro c24 h24
 refine Vs (Zb ?_)
 rcases Zi h24 with ⟨rfl, g24⟩ | ⟨rfl, g24⟩
 ·refine Zr V (Zv (Zb (Zg (Zg ?_))))
  rw [if_neg g24] at hu
  refine Vk 37 (tk ≠ 1 ∨ ¬ ts ∈ ns) Wo V ?_ _ _ V ?_
  ·skip
   refine Zm 25 V V (Zh V Wk V ⟨V, V⟩) ?_
   refine Zm 26 V V (Zh V tf_25_0 V ⟨V, V⟩) ?_
   refine Zm 27 V V (Zp (i := 0) V Xa V V V ⟨V, V⟩) ?_
   refine Wd 28 V V (fun _ q => Xq V V V q) ?_; intro c28 h28
   refine Zm 29 V V (Zd V V ⟨V, V⟩) ?_
   rcases Zi h28 with ⟨rfl, g28⟩ | ⟨rfl, g28⟩
   ·skip
    refine Zu 30 V V V V (Yc (cs' := [_, _, _, _, _, _, _, _]) V ta_73 V V V ⟨V, V⟩) ?_
    refine Zu 31 V V V V (Ym (xs := [.tmp 30]) V V (HV) by1 ⟨V, V⟩) ?_
    refine Zu 32 V V V V (Zh V Wk V ⟨V, V⟩) ?_
    refine Zu 33 V V V V (Zh V Wp V ⟨V, V⟩) ?_
    refine Zu 34 V V V V (Zp (i := 0) V Xb V V V ⟨V, V⟩) ?_
    refine Xi 35 V V V V (fun _ q => Yg (xs := [.tmp 31, .tmp 34]) V V (HH) by1 q) ?_; intro c35 h35
    refine Xi 36 V V V V (fun _ q => Xr V V q) ?_; intro c36 h36
    try replace h36 := nott h36 h35
    refine Zm 37 V V (Zn V V V ⟨V, V⟩) ?_
    show BoolQ _ _ _ _ _ _
    refine Ud V ?_ by5 by3
    clear HV HC HH; first | (simp_all; done) | grind
   skip
   refine Zf 30 V V V V (Zf 31 V V V V (Zf 32 V V V V (Zf 33 V V V V (Zf 34 V V V V (Zf 35 V V V V (Zf 36 V V V V (Zm 37 V V (Zn V V V ⟨V, V⟩) ?_)))))))
   show BoolQ _ _ _ _ _ _
   refine Ud V ?_ by5 by3
   clear HV HC HH; first | (simp_all; done) | grind
  intro c37 h37
  refine Zb ?_
  rcases Zi h37 with ⟨rfl, g37⟩ | ⟨rfl, g37⟩
  ·refine Zr V (Zv (Zb (Zg ?_)))
   rw [if_neg (fun q => g37 (q.imp_right (fun e h => by rw [hasB_iff.2 h] at e; simp at e)))] at hu
   refine Zc (Za 7 V V V (Ze V V (Vs (Zb (Zz ?_)))))
   apply Xm [0, 1, 4, 7, 38, 39, 40, 41, 42, 43, 44, 45, 46, 47, 48, 49, 50, 51, 52, 53, 54, 55, 56, 57, 58, 59, 60, 61, 62, 63, 64] (σ := Nat) (fun zz => match zz with | j => [(7, .val (.int .i64 j))]) (fun zz => match zz with | j => j ≤ i ∧ ∀ q ∈ cx.take j, ¬ (q.c = pc ∧ q.t.name = ts)) (fun zz => match zz with | j => i - j) (0)
   ·repeat' (first | exact Ui | apply Ug rfl | apply Uh rfl)
   ·exact ⟨Nat.zero_le _, by simp⟩
   ·exact by4
   rintro j hI
   try dsimp only [List.cons_append, List.nil_append] at hI ⊢
   obtain ⟨h2, hn⟩ := hI
   refine Zg (Zg (Zc (Za 38 V V V (Zd V V (Za 39 V V V (Zd V V (Za 40 V V V (Yu V V V ?_)))))))); intro c40 h40
   refine Vs (Zb ?_)
   rcases Zi h40 with ⟨rfl, g40⟩ | ⟨rfl, g40⟩
   ·refine Zr V (Xc (Xe (Xv (Xd (Yt (Zb (Zc (Za 13 V V V (Zd V V (Za 14 V V V (Yx V V V (Uj _ (by omega)) ?_)))))))))))
    refine Za 5 V V V (Ze V V (Vs (Yz ?_)))
    obtain rfl : j = i := by omega
    rw [if_neg (fun q => by obtain ⟨y, hy1, hy2⟩ := List.any_eq_true.1 q; simp only [Bool.and_eq_true, Wt] at hy2; exact hn y hy1 hy2)] at hu
    exact ⟨j + 1, ⟨by omega, by rw [hsn]; exact hu⟩, by show cx.length - (j + 1) < cx.length - j; omega, by4, (Vw _ (Vt _))⟩
   refine Zt V (Zv (Zb (Zg (Zz (Zg ?_)))))
   obtain ⟨⟨qc, ⟨qk, qs, qn, ql⟩⟩, hy⟩ := Yw (l := cx) (i := j) (by omega)
   have hcq := Pr.cellss_get hy
   have hsy := Wl hy
   simp only [Pr.cells, Ty.cells] at hcq
   refine Vk 64 (qc = pc ∧ qs = ts) Wo V ?_ _ _ V ?_
   ·skip
    refine Zm 43 V V (Zj V tf_73_2 V V ⟨V, V⟩) ?_
    refine Zm 44 V V (Zo V ta_22 V V ⟨V, V⟩) ?_
    refine Zm 45 V V (Zd V V ⟨V, V⟩) ?_
    refine Zm 46 V V (Yd V te_22 V (.seq _ _) V V (hcq) ⟨V, V⟩) ?_
    refine Zm 47 V V (Zj V Vb V V ⟨V, V⟩) ?_
    refine Zm 48 V V (Zo V Xb V V ⟨V, V⟩) ?_
    refine Zm 49 V V (Zh V Vb V ⟨V, V⟩) ?_
    refine Zm 50 V V (Zp (i := 0) V Xb V V V ⟨V, V⟩) ?_
    refine Wd 51 V V (fun _ q => Xx V V V q) ?_; intro c51 h51
    refine Zm 52 V V (Zd V V ⟨V, V⟩) ?_
    rcases Zi h51 with ⟨rfl, g51⟩ | ⟨rfl, g51⟩
    ·skip
     refine Zf 53 V V V V (Zf 54 V V V V (Zf 55 V V V V (Zf 56 V V V V (Zf 57 V V V V (Zf 58 V V V V (Zf 59 V V V V (Zf 60 V V V V (Zf 61 V V V V (Zf 62 V V V V (Zf 63 V V V V (Zm 64 V V (Zn V V V ⟨V, V⟩) ?_)))))))))))
     show BoolQ _ _ _ _ _ _
     refine Ud V ?_ by5 by3
     clear HV HC HH; first | (simp_all; done) | grind
    skip
    refine Zu 53 V V V V (Zj V tf_73_2 V V ⟨V, V⟩) ?_
    refine Zu 54 V V V V (Zo V ta_22 V V ⟨V, V⟩) ?_
    refine Zu 55 V V V V (Zd V V ⟨V, V⟩) ?_
    refine Zu 56 V V V V (Yd V te_22 V (.seq _ _) V V (hcq) ⟨V, V⟩) ?_
    refine Zu 57 V V V V (Zj V Wk V V ⟨V, V⟩) ?_
    refine Zu 58 V V V V (Zj V Wp V V ⟨V, V⟩) ?_
    refine Zu 59 V V V V (Zo V Xb V V ⟨V, V⟩) ?_
    refine Zu 60 V V V V (Zh V Wk V ⟨V, V⟩) ?_
    refine Zu 61 V V V V (Zh V Wp V ⟨V, V⟩) ?_
    refine Zu 62 V V V V (Zp (i := 0) V Xb V V V ⟨V, V⟩) ?_
    refine Xi 63 V V V V (fun _ q => Xx V V V q) ?_; intro c63 h63
    refine Zm 64 V V (Zn V V V ⟨V, V⟩) ?_
    show BoolQ _ _ _ _ _ _
    refine Ud V ?_ by5 by3
    clear HV HC HH; first | (simp_all; done) | grind
   intro c64 h64
   refine Zb ?_
   rcases Zi h64 with ⟨rfl, g64⟩ | ⟨rfl, g64⟩
   ·refine Zr V (Zv (Yt (Zb (Zc (Za 41 V V V (Zd V V (Za 42 V V V (Yx V V V (Uj _ (by omega)) ?_))))))))
    refine Za 7 V V V (Ze V V (Vs (Yz ?_)))
    exact ⟨j + 1, ⟨by omega, by rw [hsy]; intro q hq; rcases List.mem_append.1 hq with h | h; exact hn q h; rw [List.mem_singleton.1 h]; exact g64⟩, by show i - (j + 1) < i - j; omega, by4, by3⟩
   refine Zt V (Zg (Zc (Za 4 V V V (Ze V V (Vs (Zb (Ya ?_)))))))
   have htk : (cx.take i)[j]? = some (Pr.mk qc (Ty.mk qk qs qn ql)) := by rw [List.getElem?_take_of_lt (by omega)]; exact hy
   rw [if_pos (List.any_eq_true.2 ⟨_, Uk htk, by simp only [Bool.and_eq_true, Wt]; exact g64⟩)] at hu; exact Yh rfl rfl (Vz _) by3 ⟨by rw [hu], rfl⟩
  refine Zt V (Zg (Zc (Za 4 V V V (Ze V V (Vs (Zb (Ya ?_)))))))
  rw [if_pos (g37.imp_right hasB_no)] at hu; exact Yh rfl rfl (Vz _) by3 ⟨by rw [hu], rfl⟩
 refine Zt V (Zg (Zc (Za 4 V V V (Ze V V (Vs (Zb (Ya ?_)))))))
 rw [if_pos g24] at hu; exact Yh rfl rfl (Vz _) by3 ⟨by rw [hu], rfl⟩
theorem instance_c (v : En) (hv : EnB v) (i : Nat) (x : In) (hx : v.ins[i]? = some x) : PCall Tryz.prog 59 [.agg v.cells, .val (.int .i64 i)] (faultA (instR v i x)) := by
 obtain ⟨hcx1, hbs1, hkd1⟩ := hv.inss x (Uk hx)
 have HC := Class_c v x.c
 have HH := head_c v x (by omega)
 have HI := Inst_c v x.c x.hd.name
 have HX := ctx_c11 v x (by omega) (by omega)
 have hcc := findI_cases (fun (c : Cl) => sameB c.s x.c) v.cl 0
 have hcl := findI_lt (fun (c : Cl) => sameB c.s x.c) v.cl 0
 have hci : classI v x.c = findI (fun (c : Cl) => sameB c.s x.c) v.cl 0 := rfl
 rw [← hci] at hcc hcl
 have hcls := hv.cls
 obtain ⟨r, hr⟩ : ∃ r, instR v i x = r := ⟨_, rfl⟩
 rw [hr]
 unfold instR instR1 at hr
 obtain ⟨ci, hce⟩ : ∃ c, classI v x.c = c := ⟨_, rfl⟩
 obtain ⟨he, hhe⟩ : ∃ c, headR v x = c := ⟨_, rfl⟩
 obtain ⟨ii, hie⟩ : ∃ c, instI v x.c x.hd.name = c := ⟨_, rfl⟩
 obtain ⟨ce, hxe⟩ : ∃ c, ctxR v x = c := ⟨_, rfl⟩
 rw [hce] at HC hcc hcl hr
 rw [hhe] at HH hr
 rw [hie] at HI hr
 rw [hxe] at HX hr
 clear hci
 have hgi := In.cellss_get hx
 obtain ⟨da, cl, ins⟩ := v
 have hi := Vf hx
 simp only [En.cl, En.ins] at hcl hcls hr hgi hi
 have hlc := Cl.cellss_len cl
 have hli := In.cellss_len ins
 obtain ⟨xc, ⟨hk, hs, hn, hl⟩, cx, xbs, xp⟩ := x
 simp only [En.cells, In.cells, Ty.cells, List.cons_append, List.nil_append, In.c, In.hd, In.p, In.bs, Ty.name] at HC HH HI HX hr hgi hbs1 ⊢
 have hlb := Bi.cellss_len xbs
 refine Zw Tryz.func59 V (by kernel_rfl) V (Uf V) ?_
 refine Yf (Zg (Zc (Za 2 V V V (Ys (cs' := [_, _, _]) V V V V (Za 4 V V V (Zy (cs' := [_, _]) V Vn V V ?_)))))); intro b4
 refine Vs (Zb (Zg (Zc (Za 12 V V V (Zj V Vc V V (Za 13 V V V (Zo V ta_36 V V (Za 14 V V V (Zd V V (Za 15 V V V (Yd V te_36 V (.seq _ _) V V (hgi) (Za 16 V V V (Yc (cs' := [_, _, _, _, _, _, _, _]) V ta_73 V V V (Za 5 V V V (Zy (cs' := [_, _, _, _, _, _, _, _]) V tz_73 V V ?_))))))))))))))); intro b5
 refine Zs V V (Zq (cs' := [_, _, _, _, _, _, _, _]) (i := 0) V ts_73 V V V V V (Uf V) V (Vs (Zb (Zg (Zc (Za 17 V V V (Yc (cs' := [_, _, _]) V Xw V V V (Za 18 V V V (Zh V tf_73_0 V (Za 19 V V V (Zp (i := 0) V Xb V V V (Za 20 V V V (Ym (xs := [.tmp 17, .tmp 19]) V V (HC) by1 ?_)))))))))))))
 refine Za 6 V V V (Ze V V (Vs (Zb (Zg (Zg (Zc (Za 21 V V V (Zd V V (Za 22 V V V (Yu V V V ?_)))))))))); intro c22 h22
 refine Vs (Zb ?_)
 rcases Zi h22 with ⟨rfl, g22⟩ | ⟨rfl, g22⟩
 ·refine Zr V (Zv (Zb (Zg ?_)))
  rw [if_neg g22] at hr
  obtain ⟨c, hc⟩ := Yw (l := cl) (i := ci.toNat) (by omega)
  rw [hc] at hr
  simp only [] at hr
  obtain ⟨hsu1, hms1, hds1, _⟩ := hcls c (Uk hc)
  have hcc2 := Cl.cellss_get hc
  have HB := binds_c xbs c (by omega) (by omega)
  have HN := (names_c c (by omega)).pure
  have HB1 := Bnd_c xbs (by omega)
  have HB2 := Bnd_c c.ds (by omega)
  obtain ⟨cs, cv, csu, cms, cds, cp⟩ := c
  have hms1 : cms.length ≤ 100000 := hms1
  have hds1 : cds.length ≤ 100000 := hds1
  have hr : (if he ≠ 0 then (he, xp) else if ii < (i : Int) then ((125 : Int), xp) else if ce ≠ 0 then (ce, xp) else if (bndR (cms.map Me.s) [] xbs).1 ≠ 0 then bndR (cms.map Me.s) [] xbs else if missB (xbs.map Bi.s ++ cds.map Bi.s) (cms.map Me.s) = true then (128, xp) else f0) = r := hr
  simp only [faultA, Cl.cells, Cl.ds, Cl.ms] at HB HN HB2 hcc2
  obtain ⟨⟨be, ba⟩, hbe⟩ : ∃ b, bndR (cms.map Me.s) [] xbs = b := ⟨_, rfl⟩
  rw [hbe] at HB hr
  obtain ⟨ns, hns⟩ : ∃ l, cms.map Me.s = l := ⟨_, rfl⟩
  rw [hns] at HN hr
  have hlns : ns.length ≤ 100000 := by rw [← hns, List.length_map]; omega
  simp only [] at hr HB
  obtain ⟨own, hown⟩ : ∃ l, xbs.map Bi.s ++ cds.map Bi.s = l := ⟨_, rfl⟩
  rw [hown] at hr
  have hlo : own.length ≤ 200000 := by rw [← hown]; simp; omega
  have hsl1 := Xt (xbs.map Bi.s)
  have hsl2 := Xt (cds.map Bi.s)
  rw [List.length_map] at hsl1 hsl2
  have hsn1 := Xt ns
  refine Zc (Za 26 V V V (Yc (cs' := [_, _, _]) V Xw V V V (Za 27 V V V (Zx (cs' := [_, _, _, _, _, _, _, _]) (i := 0) V ta_73 V V V V (Za 28 V V V (Ym (xs := [.tmp 26, .tmp 27]) V V (HH) by1 ?_))))))
  refine Za 7 V V V (Ze V V (Vs (Zb (Zg (Zg (Zc (Za 29 V V V (Zd V V (Za 30 V V V (Xq V V V ?_)))))))))); intro c30 h30
  refine Vs (Zb ?_)
  rcases Zi h30 with ⟨rfl, g30⟩ | ⟨rfl, g30⟩
  ·refine Zr V (Zv (Zb (Zg (Zg ?_))))
   rw [if_neg g30] at hr
   refine Zc (Za 35 V V V (Yc (cs' := [_, _, _]) V Xw V V V (Za 36 V V V (Zh V tf_73_0 V (Za 37 V V V (Zp (i := 0) V Xb V V V (Za 38 V V V (Zh V Vd V (Za 39 V V V (Zh V Wp V (Za 40 V V V (Zp (i := 0) V Xb V V V (Za 41 V V V (Ym (xs := [.tmp 35, .tmp 37, .tmp 40]) V V (HI) by1 ?_))))))))))))))
   refine Za 42 V V V (Zd V V (Za 43 V V V (Yu V V V ?_))); intro c43 h43
   refine Vs (Zb ?_)
   rcases Zi h43 with ⟨rfl, g43⟩ | ⟨rfl, g43⟩
   ·refine Zr V (Zv (Zb (Zg ?_)))
    rw [if_neg g43] at hr
    refine Zc (Za 47 V V V (Yc (cs' := [_, _, _]) V Xw V V V (Za 48 V V V (Zx (cs' := [_, _, _, _, _, _, _, _]) (i := 0) V ta_73 V V V V (Za 49 V V V (Ym (xs := [.tmp 47, .tmp 48]) V V (HX) by1 ?_))))))
    refine Za 7 V V V (Ze V V (Vs (Zb (Zg (Zg (Zc (Za 50 V V V (Zd V V (Za 51 V V V (Xq V V V ?_)))))))))); intro c51 h51
    refine Vs (Zb ?_)
    rcases Zi h51 with ⟨rfl, g51⟩ | ⟨rfl, g51⟩
    ·refine Zr V (Zv (Zb (Zg ?_)))
     rw [if_neg g51] at hr
     refine Xu [0, 1, 2, 3, 4, 5, 6, 7, 8, 9] [8, 9] [[], [0], [], [2], [], [2, 3, 4], [2, 3, 4, 5], [0, 1, 2, 3, 4, 5, 6], [], [0, 1, 2, 3, 4, 5, 6, 7, 8]] Wo V (Yb 56 (none) (i := 0) V V V V V (Zh V tf_73_3 V ⟨V, V⟩) ?_)
     refine Yb 57 (some 0) (i := 1) V V V V V (Zp (i := 0) V ta_53 V V V ⟨V, V⟩) ?_
     refine Yb 58 (none) (i := 2) V V V V V (Zj V Wi V V ⟨V, V⟩) ?_
     refine Yb 59 (none) (i := 3) V V V V V (Zo V Vm V V ⟨V, V⟩) ?_
     refine Yb 60 (none) (i := 4) V V V V V (Zd V V ⟨V, V⟩) ?_
     refine Yb 61 (none) (i := 5) V V V V V (Yd (i := ci.toNat) V te_35 V (.seq _ _) V (by first | rfl | omega) (hcc2) ⟨V, V⟩) ?_
     refine Yb 62 (none) (i := 6) V V V V V (Yc (cs' := [_, _, _, _, _, _]) V ta_77 V V V ⟨V, V⟩) ?_
     refine Yb 63 (none) (i := 7) V V V V V (Ym (xs := [.tmp 57, .tmp 62]) V V (HB) by1 ⟨V, V⟩) ?_
     refine EOps.nw (i := 8) V V V (Zy (cs' := [_, _]) V Vn V V (fun b8 => ⟨_, V, ?_⟩))
     refine Xn 2 (i := 9) V V V V V (Zq (cs' := [_, _]) (i := 0) V Vi V V V V V (Uf V) V ⟨_, V, ?_⟩)
     show AGo _ _ _ _ _ _ _
     refine Zb (Zg (Zg (Zc (Za 64 V V V (Zh V tf_59_0 V (Za 65 V V V (Zp (i := 2) V Xa V V V (Za 66 V V V (Xq V V V ?_))))))))); intro c66 h66
     refine Vs (Zb ?_)
     rcases Zi h66 with ⟨rfl, g66⟩ | ⟨rfl, g66⟩
     ·refine Zr V (Zv (Zb (Zg ?_)))
      rw [if_neg g66] at hr
      refine Xu [0, 1, 3, 4, 5, 6, 7, 8, 2, 9, 10, 11] [2, 9, 10] [[], [0], [0, 1], [], [3], [], [3, 4, 5], [3, 4, 5, 6], [3, 4, 5, 6, 7], [0, 1, 2, 3, 4, 5, 6, 7, 8], [0, 1, 2, 3, 4, 5, 6, 7, 8, 9], [0, 1, 2, 3, 4, 5, 6, 7, 8, 9, 10]] Wo V (Yb 68 (none) (i := 0) V V V V V (Zh V tf_73_3 V ⟨V, V⟩) ?_)
      refine Yb 69 (some 0) (i := 1) V V V V V (Zp (i := 0) V ta_53 V V V ⟨V, V⟩) ?_
      refine Yb 71 (none) (i := 3) V V V V V (Zj V Wi V V ⟨V, V⟩) ?_
      refine Yb 72 (none) (i := 4) V V V V V (Zo V Vm V V ⟨V, V⟩) ?_
      refine Yb 73 (none) (i := 5) V V V V V (Zd V V ⟨V, V⟩) ?_
      refine Yb 74 (none) (i := 6) V V V V V (Yd (i := ci.toNat) V te_35 V (.seq _ _) V (by first | rfl | omega) (hcc2) ⟨V, V⟩) ?_
      refine Yb 75 (none) (i := 7) V V V V V (Zj V tf_77_4 V V ⟨V, V⟩) ?_
      refine Yb 76 (none) (i := 8) V V V V V (Zo V ta_53 V V ⟨V, V⟩) ?_
      refine EOps.nw (i := 2) V V V (op_callo (xs := [.tmp 69]) V V (HB1) by1 (fun u70 => ⟨_, V, ?_⟩))
      refine EOps.nw (i := 9) V V V (op_callo (xs := [.tmp 76]) V V (HB2) by1 (fun u77 => ⟨_, V, ?_⟩))
      refine Xn 3 (i := 10) V V V V V (Xj (i := 0) el_68 V V V V (.own _ _ _) by6 (fun u78 => ⟨_, V, ?_⟩))
      refine Yb 9 (none) (i := 11) V V V V V (Ze V V ⟨V, V⟩) ?_
      show AGo _ _ _ _ _ _ _
      refine Zb (Zg (Zc (Za 79 V V V (Zj V Wi V V (Za 80 V V V (Zo V Vm V V (Za 81 V V V (Zd V V ?_))))))))
      refine Za 82 V V V (Yd (i := ci.toNat) V te_35 V (.seq _ _) V (by first | rfl | omega) (hcc2) ?_)
      refine Za 83 V V V (Yc (cs' := [_, _, _, _, _, _]) V ta_77 V V V (Za 84 V V V (Ym (xs := [.tmp 83]) V V (HN) by1 ?_)))
      refine Za 10 V V V (Ze V V (Vs (Zb (Zg (Zg ?_)))))
      obtain ⟨ms, hms⟩ : ∃ b, missB own ns = b := ⟨_, rfl⟩
      rw [hms] at hr
      have hso : strs (xbs.map Bi.s) ++ strs (cds.map Bi.s) = strs own := by rw [← strs_app, hown]
      refine Zc (Za 11 V V V (Ze V V (Vs (Zb (Zz ?_)))))
      refine c_le (al' := [(1, .val (.int .i64 i)), (2, .cptr [.seq 5 (Da.cellss da), .seq 6 (Cl.cellss cl), .seq 8 (In.cellss ins)]), (4, .ptr b4 0), (5, .ptr b5 0), (9, .seq 1 (strs own)), (10, .seq 1 (strs ns)), (11, .val (.int .i64 0))]) (by first | (repeat' (first | exact SLe.nil _ | refine Uc V ?_ ?_ | exact Vz _ | exact Le.own_seq hso | exact Le.own _ _ _))) (Vt _) ?_
      apply Xm [0, 1, 2, 3, 6, 7, 8, 11, 12, 13, 14, 15, 16, 17, 18, 19, 20, 21, 22, 23, 24, 25, 26, 27, 28, 29, 30, 31, 32, 33, 34, 35, 36, 37, 38, 39, 40, 41, 42, 43, 44, 45, 46, 47, 48, 49, 50, 51, 52, 53, 54, 55, 56, 57, 58, 60, 61, 62, 63, 64, 65, 66, 67, 68, 69, 70, 71, 72, 73, 74, 75, 76, 77, 78, 79, 80, 81, 82, 83, 84, 85, 86, 87, 88, 89, 90, 91, 92, 93, 94, 95, 96, 97, 98, 99, 100] (σ := Nat) (fun zz => match zz with | k => [(11, .val (.int .i64 k))]) (fun zz => match zz with | k => k ≤ ns.length ∧ missB own (ns.drop k) = ms) (fun zz => match zz with | k => ns.length - k) (0)
      ·repeat' (first | exact Ui | apply Ug rfl | apply Uh rfl)
      ·exact ⟨Nat.zero_le _, hms⟩
      ·exact by4
      rintro k hI
      try dsimp only [List.cons_append, List.nil_append] at hI ⊢
      obtain ⟨k1, hk⟩ := hI
      refine Zg (Zg (Zc (Za 85 V V V (Zd V V (Za 86 V V V (Zd V V ?_))))))
      refine Za 87 V V V (Yy V tu_68 V (.seq _ _) (fun n87 => ?_))
      refine Za 88 V V V (Yu V V V ?_); intro c88 h88
      refine Vs (Zb ?_)
      rcases Zi h88 with ⟨rfl, g88⟩ | ⟨rfl, g88⟩
      ·refine Zr V (Xc (Xe (Xv (Xd (Zb (Zg (Zc (Za 101 V V V (Yl (ns := []) (xs := []) V Vn V Vj V V V V (Zs V V (Zq (cs' := [_, _]) (i := 1) V Vi V V V V V (Uf V) V (Vs (Zb (Ya ?_))))))))))))))
       rw [Ul (by omega), missB] at hk; rw [if_neg (by rw [← hk]; simp)] at hr; subst hr; first | exact Yn (i := 1) rfl rfl rfl Ve rfl (Vz _) (Vu _) ⟨rfl, rfl⟩ | exact Yn (i := 2) rfl rfl rfl Ve rfl (Vz _) (Vu _) ⟨rfl, rfl⟩
      refine Zt V (Zv (Zb (Zg (Zz (Zg ?_)))))
      obtain ⟨s, hxs⟩ := Yw (l := ns) (i := k) by7
      have hcs := strs_get hxs
      have hms := Uk hxs
      rw [Xp hxs, missB] at hk
      refine Zc (Za 91 V V V (Zd V V (Za 92 V V V (Zd V V (Za 93 V V V (Zd V V (Za 94 V V V (Yd V te_68 V (.seq _ _) V V (hcs) (Za 95 V V V (Zo V Xb V V (Za 96 V V V (Yg (xs := [.tmp 91, .tmp 95]) V V (Has_c own s) by1 ?_)))))))))))); intro c96 h96
      refine Za 97 V V V (Xr V V ?_); intro c97 h97
      try replace h97 := nott h97 h96
      refine Vs (Zb ?_)
      rcases Zi h97 with ⟨rfl, g97⟩ | ⟨rfl, g97⟩
      ·refine Zr V (Zv (Yt (Zb (Zc (Za 89 V V V (Zd V V (Za 90 V V V (Yx V V V (Uj _ (by omega)) ?_))))))))
       refine Za 11 V V V (Ze V V (Vs (Yz ?_)))
       rw [if_neg (by rw [hasB_iff.2 (Classical.not_not.1 g97)]; simp)] at hk; exact ⟨k + 1, ⟨by omega, hk⟩, by show ns.length - (k + 1) < ns.length - k; omega, by4, by3⟩
      refine Zt V (Zg (Zc (Za 98 V V V (Zh V tf_73_4 V (Za 99 V V V (Zp (i := 0) V Xa V V V (Za 100 V V V (Yl (ns := [0, 1]) (xs := [.const (.int .i64 128), .tmp 99]) V Vn V Vj V V V V (Zs V V (Zq (cs' := [_, _]) (i := 1) V Vi V V V V V (Uf V) V (Vs (Zb (Ya ?_)))))))))))))
      rw [if_pos (hasB_no g97)] at hk; rw [if_pos hk.symm] at hr; subst hr; first | exact Yn (i := 1) rfl rfl rfl Ve rfl (Vz _) (Vu _) ⟨rfl, rfl⟩ | exact Yn (i := 2) rfl rfl rfl Ve rfl (Vz _) (Vu _) ⟨rfl, rfl⟩
     refine Zt V (Zg (Zc (Za 67 V V V (Zx (cs' := [_, _]) (i := 2) V Ve V V V V (Zs V V (Zq (cs' := [_, _]) (i := 1) V Vi V V V V V (Uf V) V (Vs (Zb (Ya ?_)))))))))
     rw [if_pos g66] at hr; subst hr; exact Yn (i := 1) rfl rfl rfl Ve rfl (Vz _) (Vu _) ⟨rfl, rfl⟩
    refine Zt V (Zg (Zc (Za 52 V V V (Zd V V (Za 53 V V V (Zh V tf_73_4 V (Za 54 V V V (Zp (i := 0) V Xa V V V (Za 55 V V V (Yl (ns := [0, 1]) (xs := [.tmp 52, .tmp 54]) V Vn V Vj V V V V (Zs V V (Zq (cs' := [_, _]) (i := 1) V Vi V V V V V (Uf V) V (Vs (Zb (Ya ?_)))))))))))))))
    rw [if_pos g51] at hr; subst hr; exact Yn (i := 1) rfl rfl rfl Ve rfl (Vz _) (Vu _) ⟨rfl, rfl⟩
   refine Zt V (Zg (Zc (Za 44 V V V (Zh V tf_73_4 V (Za 45 V V V (Zp (i := 0) V Xa V V V (Za 46 V V V (Yl (ns := [0, 1]) (xs := [.const (.int .i64 125), .tmp 45]) V Vn V Vj V V V V (Zs V V (Zq (cs' := [_, _]) (i := 1) V Vi V V V V V (Uf V) V (Vs (Zb (Ya ?_)))))))))))))
   rw [if_pos g43] at hr; subst hr; exact Yn (i := 1) rfl rfl rfl Ve rfl (Vz _) (Vu _) ⟨rfl, rfl⟩
  refine Zt V (Zg (Zc (Za 31 V V V (Zd V V (Za 32 V V V (Zh V tf_73_4 V (Za 33 V V V (Zp (i := 0) V Xa V V V (Za 34 V V V (Yl (ns := [0, 1]) (xs := [.tmp 31, .tmp 33]) V Vn V Vj V V V V (Zs V V (Zq (cs' := [_, _]) (i := 1) V Vi V V V V V (Uf V) V (Vs (Zb (Ya ?_)))))))))))))))
  rw [if_pos g30] at hr; subst hr; exact Yn (i := 1) rfl rfl rfl Ve rfl (Vz _) (Vu _) ⟨rfl, rfl⟩
 refine Zt V (Zg (Zc (Za 23 V V V (Zh V tf_73_4 V (Za 24 V V V (Zp (i := 0) V Xa V V V (Za 25 V V V (Yl (ns := [0, 1]) (xs := [.const (.int .i64 121), .tmp 24]) V Vn V Vj V V V V (Zs V V (Zq (cs' := [_, _]) (i := 1) V Vi V V V V V (Uf V) V (Vs (Zb (Ya ?_)))))))))))))
 rw [if_pos g22] at hr; subst hr; exact Yn (i := 1) rfl rfl rfl Ve rfl (Vz _) (Vu _) ⟨rfl, rfl⟩
theorem given_c (v : En) (hv : EnB v) (x : In) (hcx : x.cx.length ≤ 1000000) (c n : ByteArray) : BCall Tryz.prog 94 [.agg v.cells, .agg x.cells, .val (.string c), .val (.string n)] (givenR v x c n = true) := by
 have HA := fun d => (Above_c v hv.sup d).pure
 have hgv : givenR v x c n = true ↔ ∃ p ∈ x.cx, p.t.name = n ∧ (p.c = c ∨ c ∈ aboveR v p.c) := by
  unfold givenR
  rw [List.any_eq_true]
  constructor
  ·rintro ⟨p, hp, h⟩
   simp only [Bool.and_eq_true, Bool.or_eq_true, Wt, hasB_iff] at h
   exact ⟨p, hp, h⟩
  rintro ⟨p, hp, h⟩
  exact ⟨p, hp, by simp only [Bool.and_eq_true, Bool.or_eq_true, Wt, hasB_iff]; exact h⟩
 generalize givenR v x c n = g at *
 obtain ⟨da, cl, ins⟩ := v
 obtain ⟨xc, ⟨hk, hs, hn, hl⟩, cx, xbs, xp⟩ := x
 have hll := Pr.cellss_len cx
 simp only [In.cx] at hcx hgv
 simp only [En.cells, In.cells, Ty.cells, List.cons_append, List.nil_append] at HA ⊢
 refine Zw Tryz.func94 V (by kernel_rfl) V (Uf V) ?_
 refine Yf (Zg (Zc (Za 4 V V V (Ys (cs' := [_, _, _]) V V V V (Za 5 V V V (Ys (cs' := [_, _, _, _, _, _, _, _]) V V V V (Za 8 V V V (Ze V V (Vs (Zb (Zg (Zg (Zc (Za 9 V V V (Ze V V (Vs (Zb (Zz ?_))))))))))))))))))
 apply Xm [0, 1, 6, 7, 8, 9, 10, 11, 12, 13, 14, 15, 16, 17, 18, 19, 20, 21, 22, 23, 24, 25, 26, 27, 28, 29, 30, 31, 32, 33, 34, 35, 36, 37, 38, 39, 40, 41, 42, 43, 44, 45, 46, 47] (σ := Nat) (fun zz => match zz with | i => [(9, .val (.int .i64 i))]) (fun zz => match zz with | i => i ≤ cx.length ∧ ∀ p ∈ cx.take i, ¬ (p.t.name = n ∧ (p.c = c ∨ c ∈ aboveR (En.mk da cl ins) p.c))) (fun zz => match zz with | i => cx.length - i) (0)
 ·repeat' (first | exact Ui | apply Ug rfl | apply Uh rfl)
 ·exact ⟨Nat.zero_le _, by simp⟩
 ·exact by4
 rintro i hI
 try dsimp only [List.cons_append, List.nil_append] at hI ⊢
 obtain ⟨h1, hu⟩ := hI
 refine Zg (Zg (Zc (Za 10 V V V (Zd V V (Za 11 V V V (Zj V tf_73_2 V V (Za 12 V V V (Zo V ta_22 V V ?_))))))))
 refine Za 13 V V V (Yy V tu_22 V (.seq _ _) (fun n13 => ?_))
 refine Za 14 V V V (Yu V V V ?_); intro c14 h14
 refine Vs (Zb ?_)
 rcases Zi h14 with ⟨rfl, g14⟩ | ⟨rfl, g14⟩
 ·refine Zr V (Xc (Xe (Xv (Xd (Zb (Zg (Zc (Za 8 V V V (Ze V V (Vs (Zb (Ya ?_))))))))))))
  rw [List.take_of_length_le (by omega)] at hu; exact Yh rfl rfl (Vz _) by3 ⟨⟨_, iff_f (fun q => by obtain ⟨p, hp, h⟩ := hgv.1 q; exact hu p hp h), rfl⟩, rfl⟩
 refine Zt V (Zv (Zb (Zg (Zz (Zg ?_)))))
 obtain ⟨⟨pc, ⟨tk, ts, tn, tl⟩⟩, hx⟩ := Yw (l := cx) (i := i) (by omega)
 have hcp := Pr.cellss_get hx
 have hsn := Wl hx
 simp only [Pr.cells, Ty.cells] at hcp
 have HH := Has_c (aboveR (En.mk da cl ins) pc) c
 refine Vk 47 (ts = n ∧ (pc = c ∨ c ∈ aboveR (En.mk da cl ins) pc)) Wo V ?_ _ _ V ?_
 ·skip
  refine Zm 17 V V (Zj V tf_73_2 V V ⟨V, V⟩) ?_
  refine Zm 18 V V (Zo V ta_22 V V ⟨V, V⟩) ?_
  refine Zm 19 V V (Zd V V ⟨V, V⟩) ?_
  refine Zm 20 V V (Yd V te_22 V (.seq _ _) V V (hcp) ⟨V, V⟩) ?_
  refine Zm 21 V V (Zj V Wk V V ⟨V, V⟩) ?_
  refine Zm 22 V V (Zj V Wp V V ⟨V, V⟩) ?_
  refine Zm 23 V V (Zo V Xb V V ⟨V, V⟩) ?_
  refine Zm 24 V V (Zd V V ⟨V, V⟩) ?_
  refine Wd 25 V V (fun _ q => Xx V V V q) ?_; intro c25 h25
  refine Zm 26 V V (Zd V V ⟨V, V⟩) ?_
  rcases Zi h25 with ⟨rfl, g25⟩ | ⟨rfl, g25⟩
  ·skip
   refine Zf 27 V V V V (Zf 28 V V V V (Zf 29 V V V V (Zf 30 V V V V (Zf 31 V V V V (Zf 32 V V V V (Zf 33 V V V V (Zf 34 V V V V (Zf 35 V V V V (DOps.gu 36 V V V V (DOps.gu 37 V V V V (DOps.gu 38 V V V V ?_)))))))))))
   refine DOps.gu 39 V V V V (DOps.gu 40 V V V V (DOps.gu 41 V V V V (DOps.gu 42 V V V V (DOps.gu 43 V V V V (DOps.gu 44 V V V V (DOps.gu 45 V V V V (Zf 46 V V V V (Zm 47 V V (Zn V V V ⟨V, V⟩) ?_))))))))
   show BoolQ _ _ _ _ _ _
   refine Ud V ?_ by5 by3
   clear HA HH hgv; first | (simp_all; done) | grind
  skip
  refine Zu 27 V V V V (Zj V tf_73_2 V V ⟨V, V⟩) ?_
  refine Zu 28 V V V V (Zo V ta_22 V V ⟨V, V⟩) ?_
  refine Zu 29 V V V V (Zd V V ⟨V, V⟩) ?_
  refine Zu 30 V V V V (Yd V te_22 V (.seq _ _) V V (hcp) ⟨V, V⟩) ?_
  refine Zu 31 V V V V (Zj V Vb V V ⟨V, V⟩) ?_
  refine Zu 32 V V V V (Zo V Xb V V ⟨V, V⟩) ?_
  refine Zu 33 V V V V (Zd V V ⟨V, V⟩) ?_
  refine Xi 34 V V V V (fun _ q => Xx V V V q) ?_; intro c34 h34
  refine Zu 35 V V V V (Zd V V ⟨V, V⟩) ?_
  rcases Zi h34 with ⟨rfl, g34⟩ | ⟨rfl, g34⟩
  ·skip
   refine Zu 36 V V V V (Yc (cs' := [_, _, _]) V Xw V V V ⟨V, V⟩) ?_
   refine Zu 37 V V V V (Zj V tf_73_2 V V ⟨V, V⟩) ?_
   refine Zu 38 V V V V (Zo V ta_22 V V ⟨V, V⟩) ?_
   refine Zu 39 V V V V (Zd V V ⟨V, V⟩) ?_
   refine Zu 40 V V V V (Yd V te_22 V (.seq _ _) V V (hcp) ⟨V, V⟩) ?_
   refine Zu 41 V V V V (Zj V Vb V V ⟨V, V⟩) ?_
   refine Zu 42 V V V V (Zo V Xb V V ⟨V, V⟩) ?_
   refine Zu 43 V V V V (Ym (xs := [.tmp 36, .tmp 42]) V V (HA pc) by1 ⟨V, V⟩) ?_
   refine Zu 44 V V V V (Zd V V ⟨V, V⟩) ?_
   refine Xi 45 V V V V (fun _ q => Yg (xs := [.tmp 43, .tmp 44]) V V (HH) by1 q) ?_; intro c45 h45
   refine Zu 46 V V V V (Zn V V V ⟨V, V⟩) ?_
   refine Zm 47 V V (Zn V V V ⟨V, V⟩) ?_
   show BoolQ _ _ _ _ _ _
   refine Ud V ?_ by5 by3
   clear HA HH hgv; first | (simp_all; done) | grind
  skip
  refine Zf 36 V V V V (Zf 37 V V V V (Zf 38 V V V V (Zf 39 V V V V (Zf 40 V V V V (Zf 41 V V V V (Zf 42 V V V V (Zf 43 V V V V (Zf 44 V V V V (Zf 45 V V V V (Zu 46 V V V V (Zn V V V ⟨V, V⟩) ?_))))))))))
  refine Zm 47 V V (Zn V V V ⟨V, V⟩) ?_
  show BoolQ _ _ _ _ _ _
  refine Ud V ?_ by5 by3
  clear HA HH hgv; first | (simp_all; done) | grind
 intro c47 h47
 refine Zb ?_
 rcases Zi h47 with ⟨rfl, g47⟩ | ⟨rfl, g47⟩
 ·refine Zr V (Zv (Yt (Zb (Zc (Za 15 V V V (Zd V V (Za 16 V V V (Yx V V V (Uj _ (by omega)) ?_))))))))
  refine Za 9 V V V (Ze V V (Vs (Yz ?_)))
  exact ⟨i + 1, ⟨by omega, by rw [hsn]; intro q hq; rcases List.mem_append.1 hq with h | h; exact hu q h; rw [List.mem_singleton.1 h]; exact g47⟩, by show cx.length - (i + 1) < cx.length - i; omega, by4, by3⟩
 exact Zt V (Zg (Zc (Za 8 V V V (Ze V V (Vs (Zb (Ya (Yh V V (Vz _) by3 ⟨⟨_, iff_t (hgv.2 ⟨_, Uk hx, g47⟩), V⟩, V⟩))))))))
theorem headR_ar {v : En} {x : In} (h : headR v x = 0) : arityR v x.hd.name = x.hd.kids.length := by
 unfold headR at h
 by_cases h1 : x.hd.kind ≠ 3 ∨ x.hd.name = kArrow ∨ arityR v x.hd.name < 0
 ·rw [if_pos h1] at h; simp at h
 rw [if_neg h1] at h
 by_cases h2 : arityR v x.hd.name ≠ x.hd.kids.length
 ·rw [if_pos h2] at h; simp at h
 exact Classical.not_not.1 h2
theorem instI_hit {v : En} {c s : ByteArray} (h : 0 ≤ instI v c s) : ∃ y, v.ins[(instI v c s).toNat]? = some y ∧ y.c = c ∧ y.hd.name = s := by
 obtain ⟨y, h1, h2, _⟩ := Vq (fun (x : In) => sameB x.c c && sameB x.hd.name s) v.ins 0 h
 simp only [Bool.and_eq_true, Wt] at h2
 exact ⟨y, h1, h2.1, h2.2⟩
theorem supers_c (v : En) (hv : EnB v) (x : In) (hx : x ∈ v.ins) (hci : 0 ≤ classI v x.c) (hh : ∀ y ∈ v.ins, headR v y = 0) : BCall Tryz.prog 60 [.agg v.cells, .agg x.cells] (supersR v x = true) := by
 obtain ⟨hcx1, hbs1, hkd1⟩ := hv.inss x hx
 have hin := hv.inss
 have HC := Class_c v x.c
 have HG := fun c n => given_c v hv x (by omega) c n
 have HI := fun s => Inst_c v s x.hd.name
 have hii := fun s => instI_hit (v := v) (c := s) (s := x.hd.name)
 have hcl := findI_lt (fun (c : Cl) => sameB c.s x.c) v.cl 0
 have hcf : classI v x.c = findI (fun (c : Cl) => sameB c.s x.c) v.cl 0 := rfl
 rw [← hcf] at hcl
 have hxa := headR_ar (hh x hx)
 have hya : ∀ y ∈ v.ins, y.hd.name = x.hd.name → y.hd.kids.length = x.hd.kids.length := fun y hy e => by
  have := headR_ar (hh y hy)
  rw [e, hxa] at this
  omega
 obtain ⟨r, hr⟩ : ∃ r, supersR v x = r := ⟨_, rfl⟩
 rw [hr]
 unfold supersR supersOf at hr
 obtain ⟨ci, hce⟩ : ∃ c, classI v x.c = c := ⟨_, rfl⟩
 rw [hce] at HC hcl hci hr
 clear hcf
 have hcl1 := hv.cls
 obtain ⟨c, hc⟩ := Yw (l := v.cl) (i := ci.toNat) (by omega)
 obtain ⟨hsu1, _⟩ := hcl1 c (Uk hc)
 rw [hc] at hr
 simp only [Option.map_some, Option.getD_some] at hr
 have hcc := Cl.cellss_get hc
 obtain ⟨cs, cv, csu, cms, cds, cp⟩ := c
 have hsu1 : csu.length ≤ 100000 := hsu1
 have hlsu := Xt csu
 have hr : supC v x csu = r := hr
 obtain ⟨da, cl, ins⟩ := v
 obtain ⟨xc, ⟨hk, hs, hn, hl⟩, xcx, xbs, xp⟩ := x
 have hlc := Cl.cellss_len cl
 have hli := In.cellss_len ins
 have hlh := Ty.cellss_len hl
 have hki : hl.length ≤ 200000 := hkd1
 simp only [En.ins, En.cl, In.hd, Ty.name, Ty.kids] at hii hya hin hcl
 simp only [En.cells, In.cells, Ty.cells, List.cons_append, List.nil_append, In.c, In.hd, Ty.name, En.cl] at HC HG HI hcc hcl ⊢
 refine Zw Tryz.func60 V (by kernel_rfl) V (Uf V) ?_
 refine Yf (Zg (Zc (Za 2 V V V (Ys (cs' := [_, _, _]) V V V V (Za 3 V V V (Ys (cs' := [_, _, _, _, _, _, _, _]) V V V V (Za 4 V V V (Ze V V (Vs (Zb (Zg (Vl Wo V (Zm 11 V V (Zj V Wi V V ⟨V, V⟩) ?_)))))))))))))
 refine Zm 12 V V (Zo V Vm V V ⟨V, V⟩) ?_
 refine Zm 13 V V (Yc (cs' := [_, _, _]) V Xw V V V ⟨V, V⟩) ?_
 refine Zm 14 V V (Zj V tf_73_0 V V ⟨V, V⟩) ?_
 refine Zm 15 V V (Zo V Xb V V ⟨V, V⟩) ?_
 refine Zm 16 V V (Ym (xs := [.tmp 13, .tmp 15]) V V (HC) by1 ⟨V, V⟩) ?_
 refine Zm 17 V V (Yd (i := ci.toNat) V te_35 V (.seq _ _) V (by first | rfl | omega) (hcc) ⟨V, V⟩) ?_
 refine Zm 18 V V (Zj V tf_77_2 V V ⟨V, V⟩) ?_
 refine Zm 19 V V (Zo V ta_68 V V ⟨V, V⟩) ?_
 refine Zm 5 V V (Ze V V ⟨V, V⟩) ?_
 show AGo _ _ _ _ _ _ _
 refine Zb (Zg (Zg (Zc (Za 6 V V V (Ze V V (Vs (Zb (Zz ?_))))))))
 apply Xm [0, 1, 4, 6, 7, 8, 9, 10, 11, 12, 13, 14, 15, 16, 17, 18, 19, 20, 21, 22, 23, 24, 25, 26, 27, 28, 29, 30, 31, 32, 33, 34, 35, 36, 37, 38, 39, 40, 41, 42, 43, 44, 45, 46, 47, 48, 49, 50, 51, 52, 53, 54, 55, 56, 57, 58, 59, 60, 61, 62, 63, 64, 65, 66, 67, 68, 69, 70, 71, 72, 73, 74, 75, 76, 77, 78, 79, 80, 81, 82, 83, 84, 85, 86, 87, 88, 89, 90] (σ := Nat) (fun zz => match zz with | i => [(6, .val (.int .i64 i))]) (fun zz => match zz with | i => i ≤ csu.length ∧ supC (En.mk da cl ins) (In.mk xc (Ty.mk hk hs hn hl) xcx xbs xp) (csu.drop i) = r) (fun zz => match zz with | i => csu.length - i) (0)
 ·repeat' (first | exact Ui | apply Ug rfl | apply Uh rfl)
 ·exact ⟨Nat.zero_le _, hr⟩
 ·exact by4
 rintro i hI
 try dsimp only [List.cons_append, List.nil_append] at hI ⊢
 obtain ⟨h1, hu⟩ := hI
 refine Zg (Zg (Zc (Za 20 V V V (Zd V V (Za 21 V V V (Zd V V ?_))))))
 refine Za 22 V V V (Yy V tu_68 V (.seq _ _) (fun n22 => ?_))
 refine Za 23 V V V (Yu V V V ?_); intro c23 h23
 refine Vs (Zb ?_)
 rcases Zi h23 with ⟨rfl, g23⟩ | ⟨rfl, g23⟩
 ·refine Zr V (Xc (Xe (Xv (Xd (Zb (Zg (Zc (Za 4 V V V (Ze V V (Vs (Zb (Ya ?_))))))))))))
  rw [Ul (by omega), supC] at hu; exact Yh rfl rfl (Vz _) (Vu _) ⟨⟨_, iff_t hu.symm, rfl⟩, rfl⟩
 refine Zt V (Zv (Zb (Zg (Zz (Zg ?_)))))
 obtain ⟨s, hxs⟩ := Yw (l := csu) (i := i) by7
 have hcs := strs_get hxs
 have hms := Uk hxs
 rw [Xp hxs, supC] at hu
 have HI1 := HI s
 have hii1 := hii s
 obtain ⟨ii, hie⟩ : ∃ c, instI (En.mk da cl ins) s hs = c := ⟨_, rfl⟩
 have hu : (match ins[(instI (En.mk da cl ins) s hs).toNat]? with | none => false | some y => if instI (En.mk da cl ins) s hs < 0 then false else if supB (En.mk da cl ins) (In.mk xc (Ty.mk hk hs hn hl) xcx xbs xp) y y.cx = false then false else supC (En.mk da cl ins) (In.mk xc (Ty.mk hk hs hn hl) xcx xbs xp) (csu.drop (i + 1))) = r := hu
 rw [hie] at hu HI1 hii1
 refine Vl Wo V (Zm 26 V V (Yc (cs' := [_, _, _]) V Xw V V V ⟨V, V⟩) ?_)
 refine Zm 27 V V (Zd V V ⟨V, V⟩) ?_
 refine Zm 28 V V (Zd V V ⟨V, V⟩) ?_
 refine Zm 29 V V (Yd V te_68 V (.seq _ _) V V (hcs) ⟨V, V⟩) ?_
 refine Zm 30 V V (Zo V Xb V V ⟨V, V⟩) ?_
 refine Zm 31 V V (Zj V Vd V V ⟨V, V⟩) ?_
 refine Zm 32 V V (Zj V Wp V V ⟨V, V⟩) ?_
 refine Zm 33 V V (Zo V Xb V V ⟨V, V⟩) ?_
 refine Zm 34 V V (Ym (xs := [.tmp 26, .tmp 30, .tmp 33]) V V (HI1) by1 ⟨V, V⟩) ?_
 refine Zm 7 V V (Ze V V ⟨V, V⟩) ?_
 show AGo _ _ _ _ _ _ _
 refine Zb (Zg (Zg (Zc (Za 35 V V V (Zd V V (Za 36 V V V (Yu V V V ?_))))))); intro c36 h36
 refine Vs (Zb ?_)
 rcases Zi h36 with ⟨rfl, g36⟩ | ⟨rfl, g36⟩
 ·refine Zr V (Zv (Zb (Zg ?_)))
  obtain ⟨y, hy, hyc, hyn⟩ := hii1 (by omega)
  rw [hy] at hu
  simp only [] at hu
  rw [if_neg g36] at hu
  have hyl := hya y (Uk hy) hyn
  obtain ⟨hyb1, _, hyb3⟩ := hin y (Uk hy)
  have hcy := In.cellss_get hy
  obtain ⟨sb, hsb⟩ : ∃ b, supB (En.mk da cl ins) (In.mk xc (Ty.mk hk hs hn hl) xcx xbs xp) y y.cx = b := ⟨_, rfl⟩
  rw [hsb] at hu
  obtain ⟨yc, ⟨yk, ys, yn, yl⟩, ycx, ybs, yp⟩ := y
  have hyl : yl.length = hl.length := hyl
  have hyb1 : ycx.length ≤ 100000 := hyb1
  have hlp := Pr.cellss_len ycx
  have hly := Ty.cellss_len yl
  have hsb : supB (En.mk da cl ins) (In.mk xc (Ty.mk hk hs hn hl) xcx xbs xp) (In.mk yc (Ty.mk yk ys yn yl) ycx ybs yp) ycx = sb := hsb
  simp only [In.cells, Ty.cells, List.cons_append, List.nil_append] at hcy
  refine Zc (Za 37 V V V (Zj V Vc V V (Za 38 V V V (Zo V ta_36 V V (Za 39 V V V (Zd V V ?_))))))
  refine Za 40 V V V (Yd (i := ii.toNat) V te_36 V (.seq _ _) V (by first | rfl | omega) (hcy) ?_)
  refine Za 41 V V V (Yc (cs' := [_, _, _, _, _, _, _, _]) V ta_73 V V V (Za 8 V V V (Zy (cs' := [_, _, _, _, _, _, _, _]) V tz_73 V V ?_))); intro b8
  refine Zs V V (Zq (cs' := [_, _, _, _, _, _, _, _]) (i := 0) V ts_73 V V V V V (Uf V) V (Vs (Zb (Zg (Zc (Za 9 V V V (Ze V V (Vs (Zb (Zz ?_))))))))))
  apply Xm [0, 1, 4, 9, 10, 11, 12, 13, 14, 15, 16, 17, 18, 19, 42, 43, 44, 45, 46, 47, 48, 49, 50, 51, 52, 53, 54, 55, 56, 57, 58, 59, 60, 61, 62, 63, 64, 65, 66, 67, 68, 69, 70, 71, 72, 73, 74, 75, 76, 77, 78, 79, 80, 81, 82, 83, 84, 85, 86, 87, 88, 89, 90] (σ := Nat) (fun zz => match zz with | m => [(9, .val (.int .i64 m))]) (fun zz => match zz with | m => m ≤ ycx.length ∧ supB (En.mk da cl ins) (In.mk xc (Ty.mk hk hs hn hl) xcx xbs xp) (In.mk yc (Ty.mk yk ys yn yl) ycx ybs yp) (ycx.drop m) = sb) (fun zz => match zz with | m => ycx.length - m) (0)
  ·repeat' (first | exact Ui | apply Ug rfl | apply Uh rfl)
  ·exact ⟨Nat.zero_le _, hsb⟩
  ·exact by4
  rintro m hI
  try dsimp only [List.cons_append, List.nil_append] at hI ⊢
  obtain ⟨m1, hm⟩ := hI
  refine Zg (Zg (Zc (Za 42 V V V (Zd V V (Za 43 V V V (Zh V tf_73_2 V (Za 44 V V V (Zp (i := 0) V ta_22 V V V ?_))))))))
  refine Za 45 V V V (Yy V tu_22 V (.seq _ _) (fun n45 => ?_))
  refine Za 46 V V V (Yu V V V ?_); intro c46 h46
  refine Vs (Zb ?_)
  rcases Zi h46 with ⟨rfl, g46⟩ | ⟨rfl, g46⟩
  ·refine Zr V (Xc (Xe (Xv (Xd (Yt (Zb (Zc (Za 24 V V V (Zd V V (Za 25 V V V (Yx V V V (Uj _ (by omega)) ?_)))))))))))
   refine Za 6 V V V (Ze V V (Vs (Yz ?_)))
   rw [Ul (by omega), supB] at hm; rw [if_neg (by rw [← hm]; simp)] at hu; exact ⟨i + 1, ⟨by omega, hu⟩, by show csu.length - (i + 1) < csu.length - i; omega, by4, (Vw _ (Vt _))⟩
  refine Zt V (Zv (Zb (Zg (Zz (Zg ?_)))))
  obtain ⟨⟨pc, ⟨tk, ts, tn, tl⟩⟩, hp⟩ := Yw (l := ycx) (i := m) (by omega)
  have hcp := Pr.cellss_get hp
  simp only [Pr.cells, Ty.cells] at hcp
  rw [Xp hp, supB] at hm
  obtain ⟨sa, hsa⟩ : ∃ b, supA (En.mk da cl ins) (In.mk xc (Ty.mk hk hs hn hl) xcx xbs xp) (Pr.mk pc (Ty.mk tk ts tn tl)) yl 0 = b := ⟨_, rfl⟩
  have hm : (if supA (En.mk da cl ins) (In.mk xc (Ty.mk hk hs hn hl) xcx xbs xp) (Pr.mk pc (Ty.mk tk ts tn tl)) yl 0 = false then false else supB (En.mk da cl ins) (In.mk xc (Ty.mk hk hs hn hl) xcx xbs xp) (In.mk yc (Ty.mk yk ys yn yl) ycx ybs yp) (ycx.drop (m + 1))) = sb := hm
  rw [hsa] at hm
  refine Zc (Za 10 V V V (Ze V V (Vs (Zb (Zz ?_)))))
  apply Xm [0, 1, 4, 10, 11, 12, 13, 14, 15, 16, 17, 18, 19, 49, 50, 51, 52, 53, 54, 55, 56, 57, 58, 59, 60, 61, 62, 63, 64, 65, 66, 67, 68, 69, 70, 71, 72, 73, 74, 75, 76, 77, 78, 79, 80, 81, 82, 83, 84, 85, 86, 87, 88, 89, 90] (σ := Nat) (fun zz => match zz with | j => [(10, .val (.int .i64 j))]) (fun zz => match zz with | j => j ≤ yl.length ∧ supA (En.mk da cl ins) (In.mk xc (Ty.mk hk hs hn hl) xcx xbs xp) (Pr.mk pc (Ty.mk tk ts tn tl)) (yl.drop j) j = sa) (fun zz => match zz with | j => yl.length - j) (0)
  ·repeat' (first | exact Ui | apply Ug rfl | apply Uh rfl)
  ·exact ⟨Nat.zero_le _, hsa⟩
  ·exact by4
  rintro j hI
  try dsimp only [List.cons_append, List.nil_append] at hI ⊢
  obtain ⟨j1, hj⟩ := hI
  refine Zg (Zg (Zc (Za 49 V V V (Zd V V (Za 50 V V V (Zh V Vd V (Za 51 V V V (Zh V Wc V (Za 52 V V V (Zp (i := 0) V Vg V V V ?_))))))))))
  refine Za 53 V V V (Yy V tu_23 V (.seq _ _) (fun n53 => ?_))
  refine Za 54 V V V (Yu V V V ?_); intro c54 h54
  refine Vs (Zb ?_)
  rcases Zi h54 with ⟨rfl, g54⟩ | ⟨rfl, g54⟩
  ·refine Zr V (Xc (Xe (Xv (Xd (Yt (Zb (Zc (Za 47 V V V (Zd V V (Za 48 V V V (Yx V V V (Uj _ (by omega)) ?_)))))))))))
   refine Za 9 V V V (Ze V V (Vs (Yz ?_)))
   rw [Ul (by omega), supA] at hj; rw [if_neg (by rw [← hj]; simp)] at hm; exact ⟨m + 1, ⟨by omega, hm⟩, by show ycx.length - (m + 1) < ycx.length - m; omega, by4, by3⟩
  refine Zt V (Zv (Zb (Zg (Zz (Zg ?_)))))
  obtain ⟨⟨ak, as_, an, al⟩, ha⟩ := Yw (l := yl) (i := j) (by omega)
  obtain ⟨⟨bk, bs, bn, bl⟩, hb⟩ := Yw (l := hl) (i := j) (by omega)
  have hca := Ty.cellss_get ha
  have hcb := Ty.cellss_get hb
  simp only [Ty.cells] at hca hcb
  rw [Xp ha, supA] at hj
  have hj : (if sameB as_ ts = true ∧ givenR (En.mk da cl ins) (In.mk xc (Ty.mk hk hs hn hl) xcx xbs xp) pc (((hl[j]?).map Ty.name).getD kE) = false then false else supA (En.mk da cl ins) (In.mk xc (Ty.mk hk hs hn hl) xcx xbs xp) (Pr.mk pc (Ty.mk tk ts tn tl)) (yl.drop (j + 1)) (j + 1)) = sa := hj
  rw [hb] at hj
  have hj : (if sameB as_ ts = true ∧ givenR (En.mk da cl ins) (In.mk xc (Ty.mk hk hs hn hl) xcx xbs xp) pc bs = false then false else supA (En.mk da cl ins) (In.mk xc (Ty.mk hk hs hn hl) xcx xbs xp) (Pr.mk pc (Ty.mk tk ts tn tl)) (yl.drop (j + 1)) (j + 1)) = sa := hj
  have HG1 := HG pc bs
  obtain ⟨gv, hgv⟩ : ∃ b, givenR (En.mk da cl ins) (In.mk xc (Ty.mk hk hs hn hl) xcx xbs xp) pc bs = b := ⟨_, rfl⟩
  rw [hgv] at hj HG1
  refine Vk 90 (as_ = ts ∧ ¬ gv = true) Wo V ?_ _ _ V ?_
  ·skip
   refine Zm 57 V V (Zh V Vd V ⟨V, V⟩) ?_
   refine Zm 58 V V (Zh V Wc V ⟨V, V⟩) ?_
   refine Zm 59 V V (Zp (i := 0) V Vg V V V ⟨V, V⟩) ?_
   refine Zm 60 V V (Zd V V ⟨V, V⟩) ?_
   refine Zm 61 V V (Yd V te_23 V (.seq _ _) V V (by first | exact hca | exact hcb | exact hcp) ⟨V, V⟩) ?_
   refine Zm 62 V V (Zj V Wp V V ⟨V, V⟩) ?_
   refine Zm 63 V V (Zo V Xb V V ⟨V, V⟩) ?_
   refine Zm 64 V V (Zh V tf_73_2 V ⟨V, V⟩) ?_
   refine Zm 65 V V (Zp (i := 0) V ta_22 V V V ⟨V, V⟩) ?_
   refine Zm 66 V V (Zd V V ⟨V, V⟩) ?_
   refine Zm 67 V V (Yd V te_22 V (.seq _ _) V V (by first | exact hca | exact hcb | exact hcp) ⟨V, V⟩) ?_
   refine Zm 68 V V (Zj V Wk V V ⟨V, V⟩) ?_
   refine Zm 69 V V (Zj V Wp V V ⟨V, V⟩) ?_
   refine Zm 70 V V (Zo V Xb V V ⟨V, V⟩) ?_
   refine Wd 71 V V (fun _ q => Xx V V V q) ?_; intro c71 h71
   refine Zm 72 V V (Zd V V ⟨V, V⟩) ?_
   rcases Zi h71 with ⟨rfl, g71⟩ | ⟨rfl, g71⟩
   ·skip
    refine Zf 73 V V V V (Zf 74 V V V V (Zf 75 V V V V (Zf 76 V V V V (Zf 77 V V V V (Zf 78 V V V V (Zf 79 V V V V (Zf 80 V V V V (Zf 81 V V V V (Zf 82 V V V V (Zf 83 V V V V (Zf 84 V V V V ?_)))))))))))
    refine Zf 85 V V V V (Zf 86 V V V V (Zf 87 V V V V (Zf 88 V V V V (Zf 89 V V V V (Zm 90 V V (Zn V V V ⟨V, V⟩) ?_)))))
    show BoolQ _ _ _ _ _ _
    refine Ud V ?_ by5 by3
    clear HC HG HI HI1 HG1 hii hya hin; first | (simp_all; done) | grind
   skip
   refine Zu 73 V V V V (Yc (cs' := [_, _, _]) V Xw V V V ⟨V, V⟩) ?_
   refine Zu 74 V V V V (Yc (cs' := [_, _, _, _, _, _, _, _]) V ta_73 V V V ⟨V, V⟩) ?_
   refine Zu 75 V V V V (Zh V tf_73_2 V ⟨V, V⟩) ?_
   refine Zu 76 V V V V (Zp (i := 0) V ta_22 V V V ⟨V, V⟩) ?_
   refine Zu 77 V V V V (Zd V V ⟨V, V⟩) ?_
   refine Zu 78 V V V V (Yd V te_22 V (.seq _ _) V V (by first | exact hca | exact hcb | exact hcp) ⟨V, V⟩) ?_
   refine Zu 79 V V V V (Zj V Vb V V ⟨V, V⟩) ?_
   refine Zu 80 V V V V (Zo V Xb V V ⟨V, V⟩) ?_
   refine Zu 81 V V V V (Zj V Vd V V ⟨V, V⟩) ?_
   refine Zu 82 V V V V (Zj V Wc V V ⟨V, V⟩) ?_
   refine Zu 83 V V V V (Zo V Vg V V ⟨V, V⟩) ?_
   refine Zu 84 V V V V (Zd V V ⟨V, V⟩) ?_
   refine Zu 85 V V V V (Yd V te_23 V (.seq _ _) V V (by first | exact hca | exact hcb | exact hcp) ⟨V, V⟩) ?_
   refine Zu 86 V V V V (Zj V Wp V V ⟨V, V⟩) ?_
   refine Zu 87 V V V V (Zo V Xb V V ⟨V, V⟩) ?_
   refine Xi 88 V V V V (fun _ q => Yg (xs := [.tmp 73, .tmp 74, .tmp 80, .tmp 87]) V V (HG1) by1 q) ?_; intro c88 h88
   refine Xi 89 V V V V (fun _ q => Xr V V q) ?_; intro c89 h89
   try replace h89 := nott h89 h88
   refine Zm 90 V V (Zn V V V ⟨V, V⟩) ?_
   show BoolQ _ _ _ _ _ _
   refine Ud V ?_ by5 by3
   clear HC HG HI HI1 HG1 hii hya hin; first | (simp_all; done) | grind
  intro c90 h90
  refine Zb ?_
  rcases Zi h90 with ⟨rfl, g90⟩ | ⟨rfl, g90⟩
  ·refine Zr V (Zv (Yt (Zb (Zc (Za 55 V V V (Zd V V (Za 56 V V V (Yx V V V (Uj _ (by omega)) ?_))))))))
   refine Za 10 V V V (Ze V V (Vs (Yz ?_)))
   rw [if_neg (fun q => g90 ⟨Wt.1 q.1, by rw [q.2]; simp⟩)] at hj; exact ⟨j + 1, ⟨by omega, hj⟩, by show yl.length - (j + 1) < yl.length - j; omega, by4, by3⟩
  refine Zt V (Zg (Zc (Za 4 V V V (Ze V V (Vs (Zb (Ya ?_)))))))
  rw [if_pos ⟨sameB_yes g90.1, by simpa using g90.2⟩] at hj; rw [if_pos hj.symm] at hm; rw [if_pos hm.symm] at hu; subst hu; exact Yh rfl rfl (Vz _) (Vu _) ⟨⟨_, iff_f (by simp), rfl⟩, rfl⟩
 refine Zt V (Zg (Zc (Za 4 V V V (Ze V V (Vs (Zb (Ya ?_)))))))
 have hrf : r = false := by
  rw [← hu]
  split
  ·rfl
  rw [if_pos g36]
 subst hrf; exact Yh rfl rfl (Vz _) (Vu _) ⟨⟨_, iff_f (by simp), rfl⟩, rfl⟩
theorem insts1_ok (v : En) : ∀ (l : List In) (i : Nat), (insts1 v i l).1 = 0 → ∀ (j : Nat) (x : In), l[j]? = some x → (instR v (i + j) x).1 = 0
 | [], i, _, j, x, h => by simp at h
 | y :: l, i, h0, j, x, h => by
  rw [insts1] at h0
  by_cases q : (instR v i y).1 ≠ 0
  ·rw [if_pos q] at h0; exact absurd h0 q
  rw [if_neg q] at h0
  cases j with
  | zero => simp at h; subst h; simpa using q
  | succ j =>
   have := insts1_ok v l (i + 1) h0 j x (by simpa using h)
   rw [show i + (j + 1) = i + 1 + j by omega]; exact this
theorem instR_ok {v : En} {i : Nat} {x : In} (h : (instR v i x).1 = 0) : 0 ≤ classI v x.c ∧ headR v x = 0 := by
 unfold instR at h
 by_cases q : classI v x.c < 0
 ·rw [if_pos q] at h; simp at h
 rw [if_neg q] at h
 refine ⟨by omega, ?_⟩
 obtain ⟨c, hc, _⟩ := Vq (fun (c : Cl) => sameB c.s x.c) v.cl 0 (show 0 ≤ classI v x.c by omega)
 have hc : v.cl[(classI v x.c).toNat]? = some c := hc
 rw [hc] at h
 simp only [instR1] at h
 by_cases q2 : headR v x ≠ 0
 ·rw [if_pos q2] at h; exact absurd h q2
 exact Classical.not_not.1 q2
theorem Check_c (p : Pg) (hp : EnB (envOf p)) (hb : p.bs.length ≤ 1000000) : PCall Tryz.prog 25 [.agg p.cells] (faultA (checkR p)) := by
 have HD := datas_c (envOf p) hp
 have HC := classes_c (envOf p) hp
 have HI := fun i x h => instance_c (envOf p) hp i x h
 have HS := fun x h1 h2 h3 => supers_c (envOf p) hp x h1 h2 h3
 have HM := fun s => Method_c (envOf p) s
 have hok := fun h j x hx => instR_ok (insts1_ok (envOf p) (envOf p).ins 0 h j x hx)
 have hinl := hp.ins
 obtain ⟨r, hr⟩ : ∃ r, checkR p = r := ⟨_, rfl⟩
 rw [hr]
 unfold checkR at hr
 simp only [] at hr
 obtain ⟨da, cl, ins, bs⟩ := p
 have hev : envOf (Pg.mk da cl ins bs) = En.mk da cl ins := rfl
 rw [hev] at HD HC HI HS HM hok hinl
 obtain ⟨⟨de, dp⟩, hde⟩ : ∃ f, datasR (En.mk da cl ins) = f := ⟨_, rfl⟩
 obtain ⟨⟨ce, cp⟩, hce⟩ : ∃ f, classesR (En.mk da cl ins) = f := ⟨_, rfl⟩
 obtain ⟨⟨ie, ip⟩, hie⟩ : ∃ f, insts1 (En.mk da cl ins) 0 ins = f := ⟨_, rfl⟩
 obtain ⟨⟨je, jp⟩, hje⟩ : ∃ f, insts2 (En.mk da cl ins) ins = f := ⟨_, rfl⟩
 have hr : (if (datasR (En.mk da cl ins)).1 ≠ 0 then datasR (En.mk da cl ins) else if (classesR (En.mk da cl ins)).1 ≠ 0 then classesR (En.mk da cl ins) else if (insts1 (En.mk da cl ins) 0 ins).1 ≠ 0 then insts1 (En.mk da cl ins) 0 ins else if (insts2 (En.mk da cl ins) ins).1 ≠ 0 then insts2 (En.mk da cl ins) ins else binds1 (En.mk da cl ins) [] bs) = r := hr
 rw [hde, hce, hie, hje] at hr
 rw [hde] at HD
 rw [hce] at HC
 have hok : ie = 0 → ∀ j x, ins[j]? = some x → 0 ≤ classI (En.mk da cl ins) x.c ∧ headR (En.mk da cl ins) x = 0 := fun h j x hx => hok (by show (insts1 (En.mk da cl ins) 0 ins).1 = 0; rw [hie]; exact h) j x hx
 have hinl : ins.length ≤ 100000 := hinl
 have hb : bs.length ≤ 1000000 := hb
 have hli := In.cellss_len ins
 have hlb := Bi.cellss_len bs
 have hr : (if de ≠ 0 then (de, dp) else if ce ≠ 0 then (ce, cp) else if ie ≠ 0 then (ie, ip) else if je ≠ 0 then (je, jp) else binds1 (En.mk da cl ins) [] bs) = r := hr
 simp only [En.cells, Pg.cells, faultA, En.ins, En.cl] at HD HC HI HS HM ⊢
 refine Zw Tryz.func25 V (by kernel_rfl) V (Uf V) ?_
 refine Yf (Zg (Zc (Za 1 V V V (Ys (cs' := [_, _, _, _]) V V V V (Za 2 V V V (Zy (cs' := [_, _]) V Vn V V ?_)))))); intro b2
 refine Vs (Zb (Zg (Zc (Za 10 V V V (Zj V tf_55_0 V V (Za 11 V V V (Zo V ta_34 V V (Za 12 V V V (Zj V tf_55_1 V V (Za 13 V V V (Zo V Vm V V (Za 14 V V V (Zj V tf_55_2 V V (Za 15 V V V (Zo V ta_36 V V (Za 16 V V V (Yl (ns := [0, 1, 2]) (xs := [.tmp 11, .tmp 13, .tmp 15]) V tz_38 V tfl_38 V V V V (Za 3 V V V (Zy (cs' := [_, _, _]) V tz_38 V V ?_))))))))))))))))))); intro b3
 refine Zs V V (Zq (cs' := [_, _, _]) (i := 0) V ts_38 V V V V V (Uf V) V (Vs (Zb (Zg (Zc (Za 17 V V V (Zx (cs' := [_, _, _]) (i := 0) V Xw V V V V (Za 18 V V V (Ym (xs := [.tmp 17]) V V (HD) by1 ?_)))))))))
 refine Za 4 V V V (Zy (cs' := [_, _]) V Vn V V ?_); intro b4
 refine Zs V V (Zq (cs' := [_, _]) (i := 0) V Vi V V V V V (Uf V) V (Vs (Zb (Zg (Zg (Zc (Za 19 V V V (Zh V tf_59_0 V (Za 20 V V V (Zp (i := 0) V Xa V V V (Za 21 V V V (Xq V V V ?_)))))))))))); intro c21 h21
 refine Vs (Zb ?_)
 rcases Zi h21 with ⟨rfl, g21⟩ | ⟨rfl, g21⟩
 ·refine Zr V (Zv (Zb (Zg ?_)))
  rw [if_neg g21] at hr
  refine Zc (Za 23 V V V (Zx (cs' := [_, _, _]) (i := 1) V Xw V V V V (Za 24 V V V (Ym (xs := [.tmp 23]) V V (HC) by1 ?_))))
  refine Zs V V (Zq (cs' := [_, _]) (i := 0) V Vi V V V V V (Uf V) V (Vs (Zb (Zg (Zg (Zc (Za 25 V V V (Zh V tf_59_0 V (Za 26 V V V (Zp (i := 0) V Xa V V V (Za 27 V V V (Xq V V V ?_)))))))))))); intro c27 h27
  refine Vs (Zb ?_)
  rcases Zi h27 with ⟨rfl, g27⟩ | ⟨rfl, g27⟩
  ·refine Zr V (Zv (Zb (Zg (Zg ?_))))
   rw [if_neg g27] at hr
   refine Zc (Za 5 V V V (Ze V V (Vs (Zb (Zz ?_)))))
   apply Wg [0, 5, 9, 10, 11, 12, 13, 14, 15, 16, 17, 18, 19, 20, 21, 22, 23, 24, 25, 26, 27, 28, 29, 30, 31, 32, 33, 34, 35, 36, 37, 38, 39, 40, 41, 42] (σ := Nat × Int × Int) (fun zz => match zz with | (i, fe, fa) => [(5, .val (.int .i64 i))]) (fun zz => match zz with | (i, fe, fa) => [.loc b4 [.val (.int .i64 fe), .val (.int .i64 fa)], .loc b3 [.seq 5 (Da.cellss da), .seq 6 (Cl.cellss cl), .seq 8 (In.cellss ins)], .loc b2 zF]) (fun zz => match zz with | (i, fe, fa) => i ≤ ins.length ∧ insts1 (En.mk da cl ins) i (ins.drop i) = (ie, ip)) (fun zz => match zz with | (i, fe, fa) => ins.length - i) ((0, ce, cp))
   ·repeat' (first | exact Ui | apply Ug rfl | apply Uh rfl)
   ·exact ⟨Nat.zero_le _, hie⟩
   ·exact by4
   ·exact (Vy V)
   rintro ⟨i, fe, fa⟩ hI
   try dsimp only [List.cons_append, List.nil_append] at hI ⊢
   obtain ⟨h1, hu⟩ := hI
   refine Zg (Zg (Zc (Za 29 V V V (Zd V V (Za 30 V V V (Zh V Vc V (Za 31 V V V (Zp (i := 1) V ta_36 V V V ?_))))))))
   refine Za 32 V V V (Yy V tu_36 V (.seq _ _) (fun n32 => ?_))
   refine Za 33 V V V (Yu V V V ?_); intro c33 h33
   refine Vs (Zb ?_)
   rcases Zi h33 with ⟨rfl, g33⟩ | ⟨rfl, g33⟩
   ·refine Zr V (Xc (Xe (Xv (Xd (Zb (Zg (Zg ?_)))))))
    rw [Ul (by omega), insts1] at hu
    have hie0 : ie = 0 := (congrArg Prod.fst hu).symm
    rw [if_neg (by rw [hie0]; simp)] at hr
    have hok := hok hie0
    have hha : ∀ y ∈ ins, headR (En.mk da cl ins) y = 0 := fun y hy => by
     obtain ⟨j, hj⟩ := List.getElem?_of_mem hy
     exact (hok j y hj).2
    refine Zc (Za 6 V V V (Ze V V (Vs (Zb (Zz ?_)))))
    apply Xm [0, 4, 5, 6, 9, 10, 11, 12, 13, 14, 15, 16, 17, 18, 19, 20, 21, 22, 23, 24, 25, 26, 27, 28, 29, 30, 31, 32, 33, 34, 35, 36, 37, 38, 39, 40, 41, 42, 43, 44, 45, 46, 47, 48, 49, 50, 51, 52, 53, 54, 55, 56, 57, 58, 59, 60, 61, 62, 63, 64] (σ := Nat) (fun zz => match zz with | i2 => [(6, .val (.int .i64 i2))]) (fun zz => match zz with | i2 => i2 ≤ ins.length ∧ insts2 (En.mk da cl ins) (ins.drop i2) = (je, jp)) (fun zz => match zz with | i2 => ins.length - i2) (0)
    ·repeat' (first | exact Ui | apply Ug rfl | apply Uh rfl)
    ·exact ⟨Nat.zero_le _, hje⟩
    ·exact by4
    rintro i2 hI
    try dsimp only [List.cons_append, List.nil_append] at hI ⊢
    obtain ⟨h2, hw⟩ := hI
    refine Zg (Zg (Zc (Za 43 V V V (Zd V V (Za 44 V V V (Zh V Vc V (Za 45 V V V (Zp (i := 1) V ta_36 V V V ?_))))))))
    refine Za 46 V V V (Yy V tu_36 V (.seq _ _) (fun n46 => ?_))
    refine Za 47 V V V (Yu V V V ?_); intro c47 h47
    refine Vs (Zb ?_)
    rcases Zi h47 with ⟨rfl, g47⟩ | ⟨rfl, g47⟩
    ·refine Zr V (Xc (Xe (Xv (Xd (Zb (Zg (Zg ?_)))))))
     rw [Ul (by omega), insts2] at hw
     have hje0 : je = 0 := (congrArg Prod.fst hw).symm
     rw [if_neg (by rw [hje0]; simp)] at hr
     refine Zc (Za 7 V V V (Ze V V (Vs (Zb (Zz ?_)))))
     apply Xm [0, 4, 5, 6, 7, 8, 9, 10, 11, 12, 13, 14, 15, 16, 17, 18, 19, 20, 21, 22, 23, 24, 25, 26, 27, 28, 29, 30, 31, 32, 33, 34, 35, 36, 37, 38, 39, 40, 41, 42, 43, 44, 45, 46, 47, 48, 49, 50, 51, 52, 53, 54, 55, 56, 57, 58, 60, 61, 62, 63, 64, 65, 66, 67, 68, 69, 70, 71, 72, 73, 74, 75, 76, 77, 78, 79, 80, 81, 82, 83, 84, 85, 86, 87, 88, 89, 90, 91, 92, 93, 94, 95, 96, 97, 98, 99, 100, 101, 102, 103, 104, 105] (σ := Nat) (fun zz => match zz with | i3 => [(7, .val (.int .i64 i3))]) (fun zz => match zz with | i3 => i3 ≤ bs.length ∧ binds1 (En.mk da cl ins) ((bs.take i3).map Bi.s) (bs.drop i3) = r) (fun zz => match zz with | i3 => bs.length - i3) (0)
     ·repeat' (first | exact Ui | apply Ug rfl | apply Uh rfl)
     ·exact ⟨Nat.zero_le _, hr⟩
     ·exact by4
     rintro i3 hI
     try dsimp only [List.cons_append, List.nil_append] at hI ⊢
     obtain ⟨h3, ht⟩ := hI
     refine Zg (Zg (Zc (Za 65 V V V (Zd V V (Za 66 V V V (Zj V tf_55_3 V V (Za 67 V V V (Zo V ta_53 V V ?_))))))))
     refine Za 68 V V V (Yy V tu_53 V (.seq _ _) (fun n68 => ?_))
     refine Za 69 V V V (Yu V V V ?_); intro c69 h69
     refine Vs (Zb ?_)
     rcases Zi h69 with ⟨rfl, g69⟩ | ⟨rfl, g69⟩
     ·refine Zr V (Xc (Xe (Xv (Xd (Zb (Zg (Zc (Za 106 V V V (Yl (ns := []) (xs := []) V Vn V Vj V V V V (Zs V V (Zq (cs' := [_, _]) (i := 2) V Vi V V V V V (Uf V) V (Vs (Zb (Ya ?_))))))))))))))
      rw [Ul (by omega), binds1] at ht; subst ht; exact Yn (i := 2) rfl rfl rfl Ve rfl (Vz _) (Vu _) ⟨rfl, rfl⟩
     refine Zt V (Zv (Zb (Zg (Zz (Zg ?_)))))
     obtain ⟨⟨xs, ⟨yk, ys, yn, ⟨ytk, yts, ytn, ytl⟩, yks, yal, ybs, yp⟩, xp⟩, hxx⟩ := Yw (l := bs) (i := i3) (by omega)
     have hcx := Bi.cellss_get hxx
     simp only [Bi.cells, Ex.cells, Ty.cells, List.cons_append, List.nil_append] at hcx
     rw [Xp hxx, binds1] at ht
     have hsn := Wl hxx
     have HB := (Bnd_c (bs.take i3) (by rw [List.length_take]; omega)).pure
     rw [← Bi.cellss_take] at HB
     have HM1 := HM xs
     have ht : (if 0 ≤ (methI xs cl 0).1 ∨ hasB ((bs.take i3).map Bi.s) xs = true then ((120 : Int), xp) else binds1 (En.mk da cl ins) ((bs.take i3).map Bi.s ++ [xs]) (bs.drop (i3 + 1))) = r := ht
     obtain ⟨⟨m1, m2⟩, hm⟩ : ∃ f, methI xs cl 0 = f := ⟨_, rfl⟩
     rw [hm] at ht HM1
     simp only [] at ht HM1
     have HH := Has_c ((bs.take i3).map Bi.s) xs
     refine Vl Wo V (Zm 73 V V (Zx (cs' := [_, _, _]) (i := 1) V Xw V V V V ⟨V, V⟩) ?_)
     refine Zm 74 V V (Zj V tf_55_3 V V ⟨V, V⟩) ?_
     refine Zm 75 V V (Zo V ta_53 V V ⟨V, V⟩) ?_
     refine Zm 76 V V (Zd V V ⟨V, V⟩) ?_
     refine Zm 77 V V (Yd V te_53 V (.seq _ _) V V (hcx) ⟨V, V⟩) ?_
     refine Zm 78 V V (Zj V tf_112_0 V V ⟨V, V⟩) ?_
     refine Zm 79 V V (Zo V Xb V V ⟨V, V⟩) ?_
     refine Zm 80 V V (Ym (xs := [.tmp 73, .tmp 79]) V V (HM1) by1 ⟨V, V⟩) ?_
     refine Zm 72 V V (Zd V V ⟨V, V⟩) ?_
     refine Zm 81 V V (Yv V V V ⟨V, V⟩) ?_
     refine Zm 82 V V (Yv V V V ⟨V, V⟩) ?_
     refine Zm 8 V V (Ze V V ⟨V, V⟩) ?_
     refine Zm 9 V V (Ze V V ⟨V, V⟩) ?_
     show AGo _ _ _ _ _ _ _
     refine Zb (Zg (Vk 98 (0 ≤ m1 ∨ xs ∈ (bs.take i3).map Bi.s) Wo V ?_ _ _ V ?_))
     ·skip
      refine Zm 83 V V (Zd V V ⟨V, V⟩) ?_
      refine Wd 84 V V (fun _ q => Wa V V V q) ?_; intro c84 h84
      refine Zm 85 V V (Zd V V ⟨V, V⟩) ?_
      rcases Zi h84 with ⟨rfl, g84⟩ | ⟨rfl, g84⟩
      ·skip
       refine Zu 86 V V V V (Zj V tf_55_3 V V ⟨V, V⟩) ?_
       refine Zu 87 V V V V (Zo V ta_53 V V ⟨V, V⟩) ?_
       refine Zu 88 V V V V (Zd V V ⟨V, V⟩) ?_
       refine Zu 89 V V V V (op_cuth V te_53 V (.seq _ _) V V (by omega) ⟨V, V⟩) ?_
       refine Zu 90 V V V V (Ym (xs := [.tmp 89]) V V (HB) by1 ⟨V, V⟩) ?_
       refine Zu 91 V V V V (Zj V tf_55_3 V V ⟨V, V⟩) ?_
       refine Zu 92 V V V V (Zo V ta_53 V V ⟨V, V⟩) ?_
       refine Zu 93 V V V V (Zd V V ⟨V, V⟩) ?_
       refine Zu 94 V V V V (Yd V te_53 V (.seq _ _) V V (hcx) ⟨V, V⟩) ?_
       refine Zu 95 V V V V (Zj V tf_112_0 V V ⟨V, V⟩) ?_
       refine Zu 96 V V V V (Zo V Xb V V ⟨V, V⟩) ?_
       refine Xi 97 V V V V (fun _ q => Yg (xs := [.tmp 90, .tmp 96]) V V (HH) by1 q) ?_; intro c97 h97
       refine Zm 98 V V (Zn V V V ⟨V, V⟩) ?_
       show BoolQ _ _ _ _ _ _
       refine Ud V ?_ by5 by3
       clear HD HC HI HS HM HB HM1 HH; first | (simp_all; done) | (simp_all; omega) | grind
      skip
      refine Zf 86 V V V V (Zf 87 V V V V (Zf 88 V V V V (Zf 89 V V V V (Zf 90 V V V V (Zf 91 V V V V (Zf 92 V V V V (Zf 93 V V V V (Zf 94 V V V V (Zf 95 V V V V (Zf 96 V V V V (Zf 97 V V V V ?_)))))))))))
      refine Zm 98 V V (Zn V V V ⟨V, V⟩) ?_
      show BoolQ _ _ _ _ _ _
      refine Ud V ?_ by5 by3
      clear HD HC HI HS HM HB HM1 HH; first | (simp_all; done) | (simp_all; omega) | grind
     intro c98 h98
     refine Zb ?_
     rcases Zi h98 with ⟨rfl, g98⟩ | ⟨rfl, g98⟩
     ·refine Zr V (Zv (Yt (Zb (Zc (Za 70 V V V (Zd V V (Za 71 V V V (Yx V V V (Uj _ (by omega)) ?_))))))))
      refine Za 7 V V V (Ze V V (Vs (Yz ?_)))
      rw [if_neg (fun q => g98 (q.imp_right hasB_iff.1))] at ht; exact ⟨i3 + 1, ⟨by omega, by rw [hsn, List.map_append]; exact ht⟩, by show bs.length - (i3 + 1) < bs.length - i3; omega, by4, by3⟩
     refine Zt V (Zg (Zc (Za 99 V V V (Zj V tf_55_3 V V (Za 100 V V V (Zo V ta_53 V V (Za 101 V V V (Zd V V (Za 102 V V V (Yd V te_53 V (.seq _ _) V V (hcx) (Za 103 V V V (Zj V tf_112_2 V V (Za 104 V V V (Zo V Xa V V (Za 105 V V V (Yl (ns := [0, 1]) (xs := [.const (.int .i64 120), .tmp 104]) V Vn V Vj V V V V (Zs V V (Zq (cs' := [_, _]) (i := 2) V Vi V V V V V (Uf V) V (Vs (Zb (Ya ?_)))))))))))))))))))))
     rw [if_pos (g98.imp_right hasB_iff.2)] at ht; subst ht; exact Yn (i := 2) rfl rfl rfl Ve rfl (Vz _) (Vu _) ⟨rfl, rfl⟩
    refine Zt V (Zv (Zb (Zg (Zz (Zg ?_)))))
    obtain ⟨x, hx⟩ := Yw (l := ins) (i := i2) (by omega)
    have hgx := In.cellss_get hx
    have HS1 := HS x (Uk hx) (hok i2 x hx).1 hha
    rw [Xp hx, insts2] at hw
    obtain ⟨xc, ⟨hk, hs, hn, hl⟩, xcx, xbs, xp⟩ := x
    have hw : (if supersR (En.mk da cl ins) (In.mk xc (Ty.mk hk hs hn hl) xcx xbs xp) = false then ((126 : Int), xp) else insts2 (En.mk da cl ins) (ins.drop (i2 + 1))) = (je, jp) := hw
    obtain ⟨sv, hsv⟩ : ∃ b, supersR (En.mk da cl ins) (In.mk xc (Ty.mk hk hs hn hl) xcx xbs xp) = b := ⟨_, rfl⟩
    rw [hsv] at hw HS1
    simp only [In.cells, Ty.cells, List.cons_append, List.nil_append] at hgx HS1
    refine Vl Wo V (Zm 50 V V (Zx (cs' := [_, _, _]) (i := 1) V Xw V V V V ⟨V, V⟩) ?_)
    refine Zm 51 V V (Zh V Vc V ⟨V, V⟩) ?_
    refine Zm 52 V V (Zp (i := 1) V ta_36 V V V ⟨V, V⟩) ?_
    refine Zm 53 V V (Zd V V ⟨V, V⟩) ?_
    refine Zm 54 V V (Yd V te_36 V (.seq _ _) V V (hgx) ⟨V, V⟩) ?_
    refine Zm 55 V V (Yc (cs' := [_, _, _, _, _, _, _, _]) V ta_73 V V V ⟨V, V⟩) ?_
    refine Wd 56 V V (fun _ q => Yg (xs := [.tmp 50, .tmp 55]) V V (HS1) by1 q) ?_; intro c56 h56
    refine Wd 57 V V (fun _ q => Xr V V q) ?_; intro c57 h57
    try replace h57 := nott h57 h56
    show AGo _ _ _ _ _ _ _
    refine Zb ?_
    rcases Zi h57 with ⟨rfl, g57⟩ | ⟨rfl, g57⟩
    ·refine Zr V (Zv (Yt (Zb (Zc (Za 48 V V V (Zd V V (Za 49 V V V (Yx V V V (Uj _ (by omega)) ?_))))))))
     refine Za 6 V V V (Ze V V (Vs (Yz ?_)))
     rw [if_neg (fun q => g57 (by rw [q]; simp))] at hw; exact ⟨i2 + 1, ⟨by omega, hw⟩, by show ins.length - (i2 + 1) < ins.length - i2; omega, by4, by3⟩
    refine Zt V (Zg (Zc (Za 58 V V V (Zh V Vc V (Za 59 V V V (Zp (i := 1) V ta_36 V V V (Za 60 V V V (Zd V V (Za 61 V V V (Yd V te_36 V (.seq _ _) V V (hgx) (Za 62 V V V (Zj V tf_73_4 V V (Za 63 V V V (Zo V Xa V V (Za 64 V V V (Yl (ns := [0, 1]) (xs := [.const (.int .i64 126), .tmp 63]) V Vn V Vj V V V V (Zs V V (Zq (cs' := [_, _]) (i := 2) V Vi V V V V V (Uf V) V (Vs (Zb (Ya ?_)))))))))))))))))))))
    rw [if_pos (by simpa using g57)] at hw; cases hw; rw [if_pos (by simp)] at hr; subst hr; exact Yn (i := 2) rfl rfl rfl Ve rfl (Vz _) (Vu _) ⟨rfl, rfl⟩
   refine Zt V (Zv (Zb (Zg (Zz (Zg ?_)))))
   obtain ⟨x, hx⟩ := Yw (l := ins) (i := i) (by omega)
   have HI1 := HI i x hx
   rw [Xp hx, insts1] at hu
   obtain ⟨⟨ke, kp⟩, hk⟩ : ∃ f, instR (En.mk da cl ins) i x = f := ⟨_, rfl⟩
   rw [hk] at HI1 hu
   simp only [] at hu HI1
   refine Zc (Za 36 V V V (Zx (cs' := [_, _, _]) (i := 1) V Xw V V V V (Za 37 V V V (Zd V V (Za 38 V V V (Ym (xs := [.tmp 36, .tmp 37]) V V (HI1) by1 ?_))))))
   refine Zs V V (Zq (cs' := [_, _]) (i := 0) V Vi V V V V V (Uf V) V (Vs (Zb (Zg (Zc (Za 39 V V V (Zh V tf_59_0 V (Za 40 V V V (Zp (i := 0) V Xa V V V (Za 41 V V V (Xq V V V ?_))))))))))); intro c41 h41
   refine Vs (Zb ?_)
   rcases Zi h41 with ⟨rfl, g41⟩ | ⟨rfl, g41⟩
   ·refine Zr V (Zv (Yt (Zb (Zc (Za 34 V V V (Zd V V (Za 35 V V V (Yx V V V (Uj _ (by omega)) ?_))))))))
    refine Za 5 V V V (Ze V V (Vs (Yz ?_)))
    rw [if_neg g41] at hu; exact ⟨(i + 1, ke, kp), ⟨by show i + 1 ≤ ins.length; omega, hu⟩, by show ins.length - (i + 1) < ins.length - i; omega, by4, (Vy rfl)⟩
   refine Zt V (Zg (Zc (Za 42 V V V (Zx (cs' := [_, _]) (i := 0) V Ve V V V V (Zs V V (Zq (cs' := [_, _]) (i := 2) V Vi V V V V V (Uf V) V (Vs (Zb (Ya ?_)))))))))
   rw [if_pos g41] at hu; cases hu; rw [if_pos g41] at hr; subst hr; exact Yn (i := 2) rfl rfl rfl Ve rfl (Vz _) (Vu _) ⟨rfl, rfl⟩
  refine Zt V (Zg (Zc (Za 28 V V V (Zx (cs' := [_, _]) (i := 0) V Ve V V V V (Zs V V (Zq (cs' := [_, _]) (i := 2) V Vi V V V V V (Uf V) V (Vs (Zb (Ya ?_)))))))))
  rw [if_pos g27] at hr; subst hr; exact Yn (i := 2) rfl rfl rfl Ve rfl (Vz _) (Vu _) ⟨rfl, rfl⟩
 refine Zt V (Zg (Zc (Za 22 V V V (Zx (cs' := [_, _]) (i := 0) V Ve V V V V (Zs V V (Zq (cs' := [_, _]) (i := 2) V Vi V V V V V (Uf V) V (Vs (Zb (Ya ?_)))))))))
 rw [if_pos g21] at hr; subst hr; exact Yn (i := 2) rfl rfl rfl Ve rfl (Vz _) (Vu _) ⟨rfl, rfl⟩
theorem EqF_Ty {β : Type} (f : Ty → β) (g : FuncId) (xs ys : List Ty) (hg : ∀ x ∈ xs, ∀ y, BCall Tryz.prog g [.agg x.cells, .agg y.cells] (f x = f y)) : BCall Tryz.prog 97 [.seq 4 (Ty.cellss xs), .seq 4 (Ty.cellss ys), .clo (.func g) [] []] (xs.map f = ys.map f) := by
 have hlx := Ty.cellss_len xs
 have hly := Ty.cellss_len ys
 refine Zw Tryz.func97 V (by kernel_rfl) V (Uf V) ?_
 refine Yf ?_
 refine c_lens (t := 0) V (.seq _ _) (fun hmax => ?_)
 refine Zg (Zc (Za 6 V V V (Ze V V (Vs (Zb (Zg (Zg (Zc (Za 10 V V V (Zd V V ?_))))))))))
 refine Za 11 V V V (Yy V tu_23 V (.seq _ _) (fun n11 => ?_))
 refine Za 12 V V V (Zd V V ?_)
 refine Za 13 V V V (Yy V tu_23 V (.seq _ _) (fun n13 => ?_))
 refine Za 14 V V V (Xq V V V ?_); intro c14 h14
 refine Vs (Zb ?_)
 rcases Zi h14 with ⟨rfl, g14⟩ | ⟨rfl, g14⟩
 ·refine Zr V (Zv (Zb (Zg (Zg (Zc (Za 15 V V V (Zd V V ?_)))))))
  refine Za 16 V V V (Yy V tu_23 V (.seq _ _) (fun n16 => ?_))
  refine Za 17 V V V (Zd V V (Vs (Zb (Zz ?_))))
  refine c_loop (σ := Nat) (fun zz => match zz with | i => [(0, .seq 4 (Ty.cellss xs)), (1, .seq 4 (Ty.cellss ys)), (2, .clo (.func g) [] []), (15, .seq 4 (Ty.cellss xs)), (16, .val (.int .i64 (Ty.cellss xs).length)), (17, .val (.int .i64 i))]) (fun zz => match zz with | i => []) (fun zz => match zz with | i => i ≤ xs.length ∧ Upto (xs.map f) (ys.map f) i) (fun zz => match zz with | i => xs.length - i) (0) ?_ ?_ ?_ ?_
  ·exact ⟨by omega, Upto.zero _ _⟩
  ·exact by4
  ·exact by3
  rintro i hI
  try dsimp only [List.cons_append, List.nil_append] at hI ⊢
  obtain ⟨hi, hu⟩ := hI
  refine Zg (Zc (Za 18 V V V (Yu V V V ?_))); intro c18 h18
  refine Vs (Zb (Zg ?_))
  rcases Zi h18 with ⟨rfl, g18⟩ | ⟨rfl, g18⟩
  ·refine Zr V (Xc (Xe (Xv (Xd (Zb (Zg (Zc (Za 6 V V V (Ze V V (Vs (Zb (Ya ?_))))))))))))
   exact Yh V V (Vz _) by3 ⟨⟨_, iff_t (hu.eq (by simp; omega) (by simp; omega)), V⟩, V⟩
  refine Zt V (Zv (Zb (Zg (Zz (Zg ?_)))))
  obtain ⟨⟨k1, s1, n1, ks1⟩, hx⟩ := Yw (l := xs) (i := i) (by omega)
  obtain ⟨⟨k2, s2, n2, ks2⟩, hy⟩ := Yw (l := ys) (i := i) (by omega)
  have hcx := Ty.cellss_get hx
  have hcy := Ty.cellss_get hy
  refine Zc (Za 19 V V V (Zd V V (Za 20 V V V (Yd V te_23 V (.seq _ _) V V (by assumption) ?_))))
  refine Za 21 V V V (Yc (cs' := [_, _, _, _]) V Xz V V V (Za 8 V V V (Zy (cs' := [_, _, _, _]) V tz_25 V V ?_))); intro b8
  refine Za 7 V V V (Ze V V (Zs V V (Zq (cs' := [_, _, _, _]) (i := 0) V ts_25 V V V V V (Uf V) V (Vs (Zb (Zg (Zc (Za 22 V V V (Zd V V (Za 23 V V V (Zd V V (Za 24 V V V (Yd V te_23 V (.seq _ _) V V (by assumption) ?_)))))))))))))
  refine Za 25 V V V (Yc (cs' := [_, _, _, _]) V Xz V V V (Za 9 V V V (Zy (cs' := [_, _, _, _]) V tz_25 V V ?_))); intro b9
  refine Zs V V (Zq (cs' := [_, _, _, _]) (i := 0) V ts_25 V V V V V (Uf V) V (Vs (Zb (Zg (Zc (Za 26 V V V (Zd V V (Za 27 V V V (Zx (cs' := [_, _, _, _]) (i := 1) V Xz V V V V (Za 28 V V V (Zx (cs' := [_, _, _, _]) (i := 0) V Xz V V V V (Za 29 V V V (op_callvb (xs := [.tmp 27, .tmp 28]) V V V (hg _ (Uk hx) ⟨k2, s2, n2, ks2⟩) by1 ?_))))))))))))); intro c29 h29
  refine Za 30 V V V (Xr V V ?_); intro c30 h30
  try replace h30 := nott h30 h29
  refine Vs (Zb ?_)
  rcases Zi h30 with ⟨rfl, g30⟩ | ⟨rfl, g30⟩
  ·refine Zr V (Zv (Yt (Zb (Zc (Za 31 V V V (Yx V V V (Uj _ (by omega)) ?_))))))
   refine Za 17 V V V (Zd V V (Vs (Yz ?_)))
   exact ⟨i + 1, ⟨by omega, upto_map f hu hx hy (Classical.not_not.1 g30)⟩, by simp; omega, by4, by3⟩
  exact Zt V (Zg (Zc (Za 6 V V V (Ze V V (Vs (Zb (Ya (Yh V V (Vz _) by3 ⟨⟨_, iff_f (map_ne f hx hy g30), V⟩, V⟩))))))))
 exact Zt V (Zg (Zc (Za 6 V V V (Ze V V (Vs (Zb (Ya (Yh V V (Vz _) by3 ⟨⟨_, iff_f (map_len_ne f (by omega)), V⟩, V⟩))))))))
theorem Eqs_Ty {β : Type} (f : Ty → β) (g : FuncId) (xs ys : List Ty) (hg : ∀ x ∈ xs, ∀ y, BCall Tryz.prog g [.agg x.cells, .agg y.cells] (f x = f y)) : BCall Tryz.prog 64 [.seq 4 (Ty.cellss xs), .seq 4 (Ty.cellss ys), .clo (.func g) [] []] (xs.map f = ys.map f) := by
 have H := EqF_Ty f g xs ys hg
 refine Zw Tryz.func64 V (by kernel_rfl) V (Uf V) ?_
 refine Yf (Zg (Zc (Za 6 V V V (Ze V V (Vs (Zb (Zg (Zc (Za 7 V V V (Zd V V (Za 8 V V V (Zd V V (Za 9 V V V (Zd V V (Za 10 V V V (Yg (xs := [.tmp 7, .tmp 8, .tmp 9]) V V (H) by1 ?_)))))))))))))))); intro c10 h10
 exact Za 6 V V V (Ze V V (Vs (Zb (Ya (Yh V V (Vz _) by3 ⟨⟨_, h10, V⟩, V⟩)))))
theorem tSameType_c (a : Ty) : ∀ b : Ty, BCall Tryz.prog 30 [.agg a.cells, .agg b.cells] (a = b) := by
 obtain ⟨k1, s1, n1, ks1⟩ := a
 rintro ⟨k2, s2, n2, ks2⟩
 have H := Eqs_Ty id 30 ks1 ks2 (fun x hx y => tSameType_c x y)
 refine Zw Tryz.func30 V (by kernel_rfl) V (Uf V) ?_
 refine Yf (Zg (Zc (Za 2 V V V (Ys (cs' := [_, _, _, _]) V V V V (Za 3 V V V (Ys (cs' := [_, _, _, _]) V V V V (Za 4 V V V (Ze V V (Vs (Zb (Zg (Xl 4 (Ty.mk k1 s1 n1 ks1 = Ty.mk k2 s2 n2 ks2) ?_ _ _ V ?_))))))))))))
 ·skip
  refine Za 5 V V V (Zj V tf_25_0 V V (Za 6 V V V (Zo V Xa V V (Za 7 V V V (Zj V tf_25_0 V V (Za 8 V V V (Zo V Xa V V (Za 9 V V V (Yr V V V ?_))))))))); intro c9 h9
  refine Za 10 V V V (Zd V V ?_)
  rcases Zi h9 with ⟨rfl, g9⟩ | ⟨rfl, g9⟩
  ·skip
   refine Zk 11 V V V V V (Zk 12 V V V V V (Zk 13 V V V V V (Zk 14 V V V V V (Zk 15 V V V V V (Za 16 V V V (Zn V V V (Za 17 V V V (Zd V V (Zk 18 V V V V V (Zk 19 V V V V V (Zk 20 V V V V V (Zk 21 V V V V V (Zk 22 V V V V V ?_)))))))))))))
   refine Za 23 V V V (Zn V V V (Za 24 V V V (Zd V V (Zk 25 V V V V V (Zk 26 V V V V V (Zk 27 V V V V V (Zk 28 V V V V V (Zk 29 V V V V V (Za 30 V V V (Zn V V V (Za 4 V V V (Ze V V (Vs (Ud V ?_ by5 by3))))))))))))))
   simp_all
  skip
  refine Zl 11 V V V V V (Zj V Wp V V (Zl 12 V V V V V (Zo V Xb V V (Zl 13 V V V V V (Zj V Wp V V (Zl 14 V V V V V (Zo V Xb V V (Zl 15 V V V V V (Xx V V V ?_))))))))); intro c15 h15
  refine Za 16 V V V (Zn V V V (Za 17 V V V (Zd V V ?_)))
  rcases Zi h15 with ⟨rfl, g15⟩ | ⟨rfl, g15⟩
  ·skip
   refine Zk 18 V V V V V (Zk 19 V V V V V (Zk 20 V V V V V (Zk 21 V V V V V (Zk 22 V V V V V (Za 23 V V V (Zn V V V (Za 24 V V V (Zd V V (Zk 25 V V V V V (Zk 26 V V V V V (Zk 27 V V V V V (Zk 28 V V V V V (Zk 29 V V V V V ?_)))))))))))))
   refine Za 30 V V V (Zn V V V (Za 4 V V V (Ze V V (Vs (Ud V ?_ by5 by3)))))
   simp_all
  skip
  refine Zl 18 V V V V V (Zj V tf_25_2 V V (Zl 19 V V V V V (Zo V Xa V V (Zl 20 V V V V V (Zj V tf_25_2 V V (Zl 21 V V V V V (Zo V Xa V V (Zl 22 V V V V V (Yr V V V ?_))))))))); intro c22 h22
  refine Za 23 V V V (Zn V V V (Za 24 V V V (Zd V V ?_)))
  rcases Zi h22 with ⟨rfl, g22⟩ | ⟨rfl, g22⟩
  ·skip
   refine Zk 25 V V V V V (Zk 26 V V V V V (Zk 27 V V V V V (Zk 28 V V V V V (Zk 29 V V V V V (Za 30 V V V (Zn V V V (Za 4 V V V (Ze V V (Vs (Ud V ?_ by5 by3))))))))))
   simp_all
  skip
  refine Zl 25 V V V V V (Zj V Wc V V (Zl 26 V V V V V (Zo V Vg V V (Zl 27 V V V V V (Zj V Wc V V (Zl 28 V V V V V (Zo V Vg V V (Zl 29 V V V V V (Yg (xs := [.tmp 26, .tmp 28, .func 30]) V V (H) by1 ?_))))))))); intro c29 h29
  refine Za 30 V V V (Zn V V V (Za 4 V V V (Ze V V (Vs (Ud V ?_ by5 by3)))))
  simp_all
 intro c4 h4
 exact Zb (Ya (Yh V V (Vz _) by3 ⟨⟨_, h4, V⟩, V⟩))
termination_by SizeOf.sizeOf a
decreasing_by
 have := List.sizeOf_lt_of_mem hx
 simp; omega
theorem IxF_Cl (p : Cl → Bool) (g : FuncId) (fs cs : List AV) (l : List Cl) (hg : ∀ x ∈ l, BCall Tryz.prog g (fs ++ [.agg x.cells] ++ cs) (p x = true)) : PCall Tryz.prog 98 [.seq 6 (Cl.cellss l), .clo (.func g) fs cs] (.val (.int .i64 (findI p l 0))) := by
 have hl := Cl.cellss_len l
 obtain ⟨r, hr⟩ : ∃ r, findI p l 0 = r := ⟨_, rfl⟩
 rw [hr]
 refine Zw Tryz.func98 V (by kernel_rfl) V (Uf V) ?_
 refine Yf ?_
 refine c_lens (t := 0) V (.seq _ _) (fun hmax => ?_)
 refine Zg (Zc (Za 4 V V V (Ze V V (Vs (Zb (Zg (Zg (Zc (Za 6 V V V (Zd V V ?_))))))))))
 refine Za 7 V V V (Yy V tu_35 V (.seq _ _) (fun n7 => ?_))
 refine Za 8 V V V (Zd V V (Vs (Zb (Zz ?_))))
 apply Xm [2, 3, 4, 5, 6, 8, 9, 10, 11, 12, 13, 14, 15, 16, 17, 18] (σ := Nat) (fun zz => match zz with | i => [(8, .val (.int .i64 i))]) (fun zz => match zz with | i => i ≤ l.length ∧ findI p (l.drop i) i = r) (fun zz => match zz with | i => l.length - i) (0)
 ·repeat' (first | exact Ui | apply Ug rfl | apply Uh rfl)
 ·exact ⟨by omega, hr⟩
 ·exact by4
 rintro i hI
 try dsimp only [List.cons_append, List.nil_append] at hI ⊢
 obtain ⟨hi, hu⟩ := hI
 refine Zg (Zc (Za 9 V V V (Yu V V V ?_))); intro c9 h9
 refine Vs (Zb (Zg ?_))
 rcases Zi h9 with ⟨rfl, g9⟩ | ⟨rfl, g9⟩
 ·refine Zr V (Xc (Xe (Xv (Xd (Zb (Zg (Zc (Za 4 V V V (Ze V V (Vs (Zb (Ya ?_))))))))))))
  rw [List.drop_eq_nil_of_le (by omega), findI] at hu; exact Yh rfl rfl (Vz _) by3 ⟨by rw [← hu], rfl⟩
 refine Zt V (Zv (Zb (Zg (Zz (Zg ?_)))))
 obtain ⟨⟨ys, yv, ysu, yms, yds, yp⟩, hxy⟩ := Yw (l := l) (i := i) by7
 have hcy := Cl.cellss_get hxy
 have hmy := Uk hxy
 refine Zc (Za 10 V V V (Zd V V (Za 5 V V V (Ze V V (Vs (Zb (Zg ?_)))))))
 rw [Xp hxy, findI] at hu
 have HG := hg _ hmy
 simp only [Cl.cells] at HG
 refine Zc (Za 11 V V V (Zd V V (Za 12 V V V (Zd V V (Za 13 V V V (Zd V V (Za 14 V V V (Yd V te_35 V (.seq _ _) V V (by assumption) ?_))))))))
 refine Za 15 V V V (Yc (cs' := [_, _, _, _, _, _]) V ta_77 V V V (Za 16 V V V (op_callvb (xs := [.tmp 15]) V V V (HG) by1 ?_))); intro c16 h16
 refine Vs (Zb ?_)
 rcases Zi h16 with ⟨rfl, g16⟩ | ⟨rfl, g16⟩
 ·refine Zr V (Zv (Yt (Zb (Zc (Za 18 V V V (Yx V V V (Uj _ (by omega)) ?_))))))
  refine Za 8 V V V (Zd V V (Vs (Yz ?_)))
  rw [if_neg g16] at hu; exact ⟨i + 1, ⟨by omega, hu⟩, by show l.length - (i + 1) < l.length - i; omega, by4, by3⟩
 refine Zt V (Zg (Zc (Za 17 V V V (Zd V V (Za 4 V V V (Ze V V (Vs (Zb (Ya ?_)))))))))
 rw [if_pos g16] at hu; exact Yh rfl rfl (Vz _) by3 ⟨by rw [hu], rfl⟩
theorem IxF_In (p : In → Bool) (g : FuncId) (fs cs : List AV) (l : List In) (hg : ∀ x ∈ l, BCall Tryz.prog g (fs ++ [.agg x.cells] ++ cs) (p x = true)) : PCall Tryz.prog 111 [.seq 8 (In.cellss l), .clo (.func g) fs cs] (.val (.int .i64 (findI p l 0))) := by
 have hl := In.cellss_len l
 obtain ⟨r, hr⟩ : ∃ r, findI p l 0 = r := ⟨_, rfl⟩
 rw [hr]
 refine Zw Tryz.func111 V (by kernel_rfl) V (Uf V) ?_
 refine Yf ?_
 refine c_lens (t := 0) V (.seq _ _) (fun hmax => ?_)
 refine Zg (Zc (Za 4 V V V (Ze V V (Vs (Zb (Zg (Zg (Zc (Za 6 V V V (Zd V V ?_))))))))))
 refine Za 7 V V V (Yy V tu_36 V (.seq _ _) (fun n7 => ?_))
 refine Za 8 V V V (Zd V V (Vs (Zb (Zz ?_))))
 apply Xm [2, 3, 4, 5, 6, 8, 9, 10, 11, 12, 13, 14, 15, 16, 17, 18] (σ := Nat) (fun zz => match zz with | i => [(8, .val (.int .i64 i))]) (fun zz => match zz with | i => i ≤ l.length ∧ findI p (l.drop i) i = r) (fun zz => match zz with | i => l.length - i) (0)
 ·repeat' (first | exact Ui | apply Ug rfl | apply Uh rfl)
 ·exact ⟨by omega, hr⟩
 ·exact by4
 rintro i hI
 try dsimp only [List.cons_append, List.nil_append] at hI ⊢
 obtain ⟨hi, hu⟩ := hI
 refine Zg (Zc (Za 9 V V V (Yu V V V ?_))); intro c9 h9
 refine Vs (Zb (Zg ?_))
 rcases Zi h9 with ⟨rfl, g9⟩ | ⟨rfl, g9⟩
 ·refine Zr V (Xc (Xe (Xv (Xd (Zb (Zg (Zc (Za 4 V V V (Ze V V (Vs (Zb (Ya ?_))))))))))))
  rw [List.drop_eq_nil_of_le (by omega), findI] at hu; exact Yh rfl rfl (Vz _) by3 ⟨by rw [← hu], rfl⟩
 refine Zt V (Zv (Zb (Zg (Zz (Zg ?_)))))
 obtain ⟨⟨yc, ⟨yhdk, yhds, yhdn, yhdl⟩, ycx, ybs, yp⟩, hxy⟩ := Yw (l := l) (i := i) by7
 have hcy := In.cellss_get hxy
 have hmy := Uk hxy
 refine Zc (Za 10 V V V (Zd V V (Za 5 V V V (Ze V V (Vs (Zb (Zg ?_)))))))
 rw [Xp hxy, findI] at hu
 have HG := hg _ hmy
 simp only [In.cells, Ty.cells, List.cons_append, List.nil_append] at HG hcy
 refine Zc (Za 11 V V V (Zd V V (Za 12 V V V (Zd V V (Za 13 V V V (Zd V V (Za 14 V V V (Yd V te_36 V (.seq _ _) V V (by assumption) ?_))))))))
 refine Za 15 V V V (Yc (cs' := [_, _, _, _, _, _, _, _]) V ta_73 V V V (Za 16 V V V (op_callvb (xs := [.tmp 15]) V V V (HG) by1 ?_))); intro c16 h16
 refine Vs (Zb ?_)
 rcases Zi h16 with ⟨rfl, g16⟩ | ⟨rfl, g16⟩
 ·refine Zr V (Zv (Yt (Zb (Zc (Za 18 V V V (Yx V V V (Uj _ (by omega)) ?_))))))
  refine Za 8 V V V (Zd V V (Vs (Yz ?_)))
  rw [if_neg g16] at hu; exact ⟨i + 1, ⟨by omega, hu⟩, by show l.length - (i + 1) < l.length - i; omega, by4, by3⟩
 refine Zt V (Zg (Zc (Za 17 V V V (Zd V V (Za 4 V V V (Ze V V (Vs (Zb (Ya ?_)))))))))
 rw [if_pos g16] at hu; exact Yh rfl rfl (Vz _) by3 ⟨by rw [hu], rfl⟩
theorem IxF_Pr (p : Pr → Bool) (g : FuncId) (fs cs : List AV) (l : List Pr) (hg : ∀ x ∈ l, BCall Tryz.prog g (fs ++ [.agg x.cells] ++ cs) (p x = true)) : PCall Tryz.prog 26 [.seq 5 (Pr.cellss l), .clo (.func g) fs cs] (.val (.int .i64 (findI p l 0))) := by
 have hl := Pr.cellss_len l
 obtain ⟨r, hr⟩ : ∃ r, findI p l 0 = r := ⟨_, rfl⟩
 rw [hr]
 refine Zw Tryz.func26 V (by kernel_rfl) V (Uf V) ?_
 refine Yf ?_
 refine c_lens (t := 0) V (.seq _ _) (fun hmax => ?_)
 refine Zg (Zc (Za 4 V V V (Ze V V (Vs (Zb (Zg (Zg (Zc (Za 6 V V V (Zd V V ?_))))))))))
 refine Za 7 V V V (Yy V tu_22 V (.seq _ _) (fun n7 => ?_))
 refine Za 8 V V V (Zd V V (Vs (Zb (Zz ?_))))
 apply Xm [2, 3, 4, 5, 6, 8, 9, 10, 11, 12, 13, 14, 15, 16, 17, 18] (σ := Nat) (fun zz => match zz with | i => [(8, .val (.int .i64 i))]) (fun zz => match zz with | i => i ≤ l.length ∧ findI p (l.drop i) i = r) (fun zz => match zz with | i => l.length - i) (0)
 ·repeat' (first | exact Ui | apply Ug rfl | apply Uh rfl)
 ·exact ⟨by omega, hr⟩
 ·exact by4
 rintro i hI
 try dsimp only [List.cons_append, List.nil_append] at hI ⊢
 obtain ⟨hi, hu⟩ := hI
 refine Zg (Zc (Za 9 V V V (Yu V V V ?_))); intro c9 h9
 refine Vs (Zb (Zg ?_))
 rcases Zi h9 with ⟨rfl, g9⟩ | ⟨rfl, g9⟩
 ·refine Zr V (Xc (Xe (Xv (Xd (Zb (Zg (Zc (Za 4 V V V (Ze V V (Vs (Zb (Ya ?_))))))))))))
  rw [List.drop_eq_nil_of_le (by omega), findI] at hu; exact Yh rfl rfl (Vz _) by3 ⟨by rw [← hu], rfl⟩
 refine Zt V (Zv (Zb (Zg (Zz (Zg ?_)))))
 obtain ⟨⟨yc, ⟨ytk, yts, ytn, ytl⟩⟩, hxy⟩ := Yw (l := l) (i := i) by7
 have hcy := Pr.cellss_get hxy
 have hmy := Uk hxy
 refine Zc (Za 10 V V V (Zd V V (Za 5 V V V (Ze V V (Vs (Zb (Zg ?_)))))))
 rw [Xp hxy, findI] at hu
 have HG := hg _ hmy
 simp only [Pr.cells, Ty.cells] at HG hcy
 refine Zc (Za 11 V V V (Zd V V (Za 12 V V V (Zd V V (Za 13 V V V (Zd V V (Za 14 V V V (Yd V te_22 V (.seq _ _) V V (by assumption) ?_))))))))
 refine Za 15 V V V (Yc (cs' := [_, _, _, _, _]) V ta_27 V V V (Za 16 V V V (op_callvb (xs := [.tmp 15]) V V V (HG) by1 ?_))); intro c16 h16
 refine Vs (Zb ?_)
 rcases Zi h16 with ⟨rfl, g16⟩ | ⟨rfl, g16⟩
 ·refine Zr V (Zv (Yt (Zb (Zc (Za 18 V V V (Yx V V V (Uj _ (by omega)) ?_))))))
  refine Za 8 V V V (Zd V V (Vs (Yz ?_)))
  rw [if_neg g16] at hu; exact ⟨i + 1, ⟨by omega, hu⟩, by show l.length - (i + 1) < l.length - i; omega, by4, by3⟩
 refine Zt V (Zg (Zc (Za 17 V V V (Zd V V (Za 4 V V V (Ze V V (Vs (Zb (Ya ?_)))))))))
 rw [if_pos g16] at hu; exact Yh rfl rfl (Vz _) by3 ⟨by rw [hu], rfl⟩
theorem findI_bd {α : Type} (p : α → Bool) (l : List α) : -1 ≤ findI p l 0 ∧ findI p l 0 < l.length := by
 have h1 := findI_cases p l 0
 have h2 := findI_lt p l 0
 omega
theorem fnd_Cl (p : Cl → Bool) (g : FuncId) (fs cs : List AV) (l : List Cl) (hg : ∀ x ∈ l, BCall Tryz.prog g (fs ++ [.agg x.cells] ++ cs) (p x = true)) : ACall Tryz.prog 70 [.seq 6 (Cl.cellss l), .clo (.func g) fs cs] [] (fun v M' => (∃ b : Bool, (b = true ↔ 0 ≤ findI p l 0) ∧ v = .tup [.val (.int .i64 (max (findI p l 0) 0)), .val (.bool b)]) ∧ M' = []) := by
 have H := IxF_Cl p g fs cs l hg
 refine Zw Tryz.func70 V (by kernel_rfl) V (Uf V) ?_
 refine Yf (Zg (Zc (Za 4 V V V (Ze V V (Za 5 V V V (Ze V V (Vs (Zb (Zg (Zc (Za 7 V V V (Zd V V (Za 8 V V V (Zd V V (Za 9 V V V (Ym (xs := [.tmp 7, .tmp 8]) V V (H) by1 ?_))))))))))))))))
 refine Za 6 V V V (Ze V V (Vs (Zb (Zg (Zc (Za 10 V V V (Zd V V (Za 11 V V V (op_max V V V (Za 12 V V V (Zd V V (Za 13 V V V (Wa V V V ?_))))))))))))); intro c13 h13
 refine Za 4 V V V (Ze V V (Za 5 V V V (Ze V V (Vs (Zb (Ya ?_))))))
 exact out_tt V V V (Vz _) by3 ⟨⟨_, h13, V⟩, V⟩
theorem fnd_In (p : In → Bool) (g : FuncId) (fs cs : List AV) (l : List In) (hg : ∀ x ∈ l, BCall Tryz.prog g (fs ++ [.agg x.cells] ++ cs) (p x = true)) : ACall Tryz.prog 95 [.seq 8 (In.cellss l), .clo (.func g) fs cs] [] (fun v M' => (∃ b : Bool, (b = true ↔ 0 ≤ findI p l 0) ∧ v = .tup [.val (.int .i64 (max (findI p l 0) 0)), .val (.bool b)]) ∧ M' = []) := by
 have H := IxF_In p g fs cs l hg
 refine Zw Tryz.func95 V (by kernel_rfl) V (Uf V) ?_
 refine Yf (Zg (Zc (Za 4 V V V (Ze V V (Za 5 V V V (Ze V V (Vs (Zb (Zg (Zc (Za 7 V V V (Zd V V (Za 8 V V V (Zd V V (Za 9 V V V (Ym (xs := [.tmp 7, .tmp 8]) V V (H) by1 ?_))))))))))))))))
 refine Za 6 V V V (Ze V V (Vs (Zb (Zg (Zc (Za 10 V V V (Zd V V (Za 11 V V V (op_max V V V (Za 12 V V V (Zd V V (Za 13 V V V (Wa V V V ?_))))))))))))); intro c13 h13
 refine Za 4 V V V (Ze V V (Za 5 V V V (Ze V V (Vs (Zb (Ya ?_))))))
 exact out_tt V V V (Vz _) by3 ⟨⟨_, h13, V⟩, V⟩
theorem Class1_c (c : Cl) (s : ByteArray) : BCall Tryz.prog 71 [.agg c.cells, .cptr [.val (.string s)]] (sameB c.s s = true) := by
 obtain ⟨cs, cv, csu, cms, cds, cp⟩ := c
 simp only [Cl.cells, Cl.s, Wt]
 refine Zw Tryz.func71 V (by kernel_rfl) V (Uf V) ?_
 refine Yf (Zg (Zc (Za 2 V V V (Ys (cs' := [_, _, _, _, _, _]) V V V V (Za 3 V V V (Ze V V (Vs (Zb (Zg (Zc (Za 4 V V V (Zj V tf_77_0 V V (Za 5 V V V (Zo V Xb V V (Za 6 V V V (Zo V Xb V V (Za 7 V V V (Xx V V V ?_)))))))))))))))))); intro c7 h7
 exact Za 3 V V V (Ze V V (Vs (Zb (Ya (Yh V V (Vz _) by3 ⟨⟨_, h7, V⟩, V⟩)))))
theorem Inst1_c (x : In) (c s : ByteArray) : BCall Tryz.prog 96 [.agg x.cells, .cptr [.val (.string c)], .cptr [.val (.string s)]] ((sameB x.c c && sameB x.hd.name s) = true) := by
 obtain ⟨xc, ⟨hk, hs, hn, hl⟩, cx, xbs, xp⟩ := x
 simp only [In.cells, Ty.cells, List.cons_append, List.nil_append, In.c, In.hd, Ty.name, Bool.and_eq_true, Wt]
 refine Zw Tryz.func96 V (by kernel_rfl) V (Uf V) ?_
 refine Yf (Zg (Zc (Za 3 V V V (Ys (cs' := [_, _, _, _, _, _, _, _]) V V V V (Za 4 V V V (Ze V V (Vs (Zb (Zg (Xl 4 (xc = c ∧ hs = s) ?_ _ _ V ?_))))))))))
 ·skip
  refine Za 5 V V V (Zj V tf_73_0 V V (Za 6 V V V (Zo V Xb V V (Za 7 V V V (Zo V Xb V V (Za 8 V V V (Xx V V V ?_))))))); intro c8 h8
  refine Za 9 V V V (Zd V V ?_)
  rcases Zi h8 with ⟨rfl, g8⟩ | ⟨rfl, g8⟩
  ·skip
   refine Zk 10 V V V V V (Zk 11 V V V V V (Zk 12 V V V V V (Zk 13 V V V V V (Zk 14 V V V V V (Za 15 V V V (Zn V V V (Za 4 V V V (Ze V V (Vs (Ud V ?_ by5 by3))))))))))
   simp_all; done
  skip
  refine Zl 10 V V V V V (Zj V Vd V V (Zl 11 V V V V V (Zj V Wp V V (Zl 12 V V V V V (Zo V Xb V V (Zl 13 V V V V V (Zo V Xb V V (Zl 14 V V V V V (Xx V V V ?_))))))))); intro c14 h14
  refine Za 15 V V V (Zn V V V (Za 4 V V V (Ze V V (Vs (Ud V ?_ by5 by3)))))
  simp_all; done
 intro c4 h4
 exact Zb (Ya (Yh V V (Vz _) by3 ⟨⟨_, h4, V⟩, V⟩))
theorem tClass_c (v : En) (s : ByteArray) : PCall Tryz.prog 40 [.agg v.cells, .val (.string s)] (.tup [.val (.int .i64 (max (classI v s) 0)), .val (.bool (decide (0 ≤ classI v s)))]) := by
 have H := fnd_Cl (fun c => sameB c.s s) 71 [] [.cptr [.val (.string s)]] v.cl (fun x _ => Class1_c x s)
 have he : findI (fun c => sameB c.s s) v.cl 0 = classI v s := rfl
 rw [he] at H
 obtain ⟨da, cl, ins⟩ := v
 simp only [En.cl] at H
 simp only [En.cells]
 refine Zw Tryz.func40 V (by kernel_rfl) V (Uf V) ?_
 refine Yf (Zg (Zc (Za 2 V V V (Ys (cs' := [_, _, _]) V V V V (Za 3 V V V (Ys (cs' := [_]) V V V V (Za 4 V V V (Ze V V (Za 5 V V V (Ze V V (Vs (Zb (Zg (Zc (Za 6 V V V (Zj V Wi V V (Za 7 V V V (Zo V Vm V V (Za 8 V V V (op_makeFunc (fs := []) (cs := [.tmp 3]) V V V (Za 9 V V V (op_callat [] (xs := [.tmp 7, .tmp 8])  V V V H by1 ?_))))))))))))))))))))))
 rintro v9 M9 ⟨⟨b9, hb9, rfl⟩, rfl⟩
 refine Za 10 V V V (Yv V V V (Za 11 V V V (Yv V V V (Za 4 V V V (Ze V V (Za 5 V V V (Ze V V (Vs (Zb (Ya ?_))))))))))
 obtain rfl : b9 = decide (0 ≤ classI (En.mk da cl ins) s) := by cases b9 <;> simp_all
 exact out_tt V V V (Vz _) by3 ⟨V, V⟩
theorem tInst_c (v : En) (c s : ByteArray) : PCall Tryz.prog 63 [.agg v.cells, .val (.string c), .val (.string s)] (.tup [.val (.int .i64 (max (instI v c s) 0)), .val (.bool (decide (0 ≤ instI v c s)))]) := by
 have H := fnd_In (fun (x : In) => sameB x.c c && sameB x.hd.name s) 96 [] [.cptr [.val (.string c)], .cptr [.val (.string s)]] v.ins (fun x _ => Inst1_c x c s)
 have he : findI (fun (x : In) => sameB x.c c && sameB x.hd.name s) v.ins 0 = instI v c s := rfl
 rw [he] at H
 obtain ⟨da, cl, ins⟩ := v
 simp only [En.ins] at H
 simp only [En.cells]
 refine Zw Tryz.func63 V (by kernel_rfl) V (Uf V) ?_
 refine Yf (Zg (Zc (Za 3 V V V (Ys (cs' := [_, _, _]) V V V V (Za 4 V V V (Ys (cs' := [_]) V V V V (Za 5 V V V (Ys (cs' := [_]) V V V V (Za 6 V V V (Ze V V (Za 7 V V V (Ze V V (Vs (Zb (Zg (Zc (Za 8 V V V (Zj V Vc V V (Za 9 V V V (Zo V ta_36 V V (Za 10 V V V (op_makeFunc (fs := []) (cs := [.tmp 4, .tmp 5]) V V V (Za 11 V V V (op_callat [] (xs := [.tmp 9, .tmp 10])  V V V H by1 ?_))))))))))))))))))))))))
 rintro v9 M9 ⟨⟨b9, hb9, rfl⟩, rfl⟩
 refine Za 12 V V V (Yv V V V (Za 13 V V V (Yv V V V (Za 6 V V V (Ze V V (Za 7 V V V (Ze V V (Vs (Zb (Ya ?_))))))))))
 obtain rfl : b9 = decide (0 ≤ instI (En.mk da cl ins) c s) := by cases b9 <;> simp_all
 exact out_tt V V V (Vz _) by3 ⟨V, V⟩
theorem same_c (a b : Pr) : BCall Tryz.prog 28 [.agg a.cells, .agg b.cells] (a = b) := by
 have H := tSameType_c a.t b.t
 obtain ⟨ac, at_⟩ := a
 obtain ⟨bc, bt⟩ := b
 simp only [Pr.t] at H
 have he : (Pr.mk ac at_ = Pr.mk bc bt) ↔ (ac = bc ∧ at_ = bt) := by simp
 rw [show (Pr.mk ac at_ = Pr.mk bc bt) = (ac = bc ∧ at_ = bt) from propext he]
 generalize hp : (at_ = bt) = p at *
 clear he hp
 obtain ⟨ak, as_, an, al⟩ := at_
 obtain ⟨bk, bs, bn, bl⟩ := bt
 simp only [Pr.cells, Ty.cells] at H ⊢
 refine Zw Tryz.func28 V (by kernel_rfl) V (Uf V) ?_
 refine Yf (Zg (Zc (Za 2 V V V (Ys (cs' := [_, _, _, _, _]) V V V V (Za 3 V V V (Ys (cs' := [_, _, _, _, _]) V V V V (Za 4 V V V (Ze V V (Vs (Zb (Zg (Xl 4 (ac = bc ∧ p) ?_ _ _ V ?_))))))))))))
 ·skip
  refine Za 5 V V V (Zj V Vb V V (Za 6 V V V (Zo V Xb V V (Za 7 V V V (Zj V Vb V V (Za 8 V V V (Zo V Xb V V (Za 9 V V V (Xx V V V ?_))))))))); intro c9 h9
  refine Za 10 V V V (Zd V V ?_)
  rcases Zi h9 with ⟨rfl, g9⟩ | ⟨rfl, g9⟩
  ·skip
   refine Zk 11 V V V V V (Zk 12 V V V V V (Zk 13 V V V V V (Zk 14 V V V V V (Zk 15 V V V V V (Za 16 V V V (Zn V V V (Za 4 V V V (Ze V V (Vs (Ud V ?_ by5 by3))))))))))
   clear H; first | (simp_all; done) | grind
  skip
  refine Zl 11 V V V V V (Zj V Wk V V (Zl 12 V V V V V (Yc (cs' := [_, _, _, _]) V Xz V V V (Zl 13 V V V V V (Zj V Wk V V (Zl 14 V V V V V (Yc (cs' := [_, _, _, _]) V Xz V V V (Zl 15 V V V V V (Yg (xs := [.tmp 12, .tmp 14]) V V (H) by1 ?_))))))))); intro c15 h15
  refine Za 16 V V V (Zn V V V (Za 4 V V V (Ze V V (Vs (Ud V ?_ by5 by3)))))
  clear H; first | (simp_all; done) | grind
 intro c4 h4
 exact Zb (Ya (Yh V V (Vz _) by3 ⟨⟨_, h4, V⟩, V⟩))
def fitsR (v : En) (p : Pr) : Bool := decide (0 ≤ instI v p.c p.t.name ∧ p.t.kind = 3 ∧ some p.t.kids.length = (v.ins[(instI v p.c p.t.name).toNat]?).map fun x => x.hd.kids.length)
theorem fits_no (v : En) (p : Pr) (h0 : ¬ 0 ≤ instI v p.c p.t.name) : PCall Tryz.prog 29 [.agg v.cells, .agg p.cells] (.tup [.val (.int .i64 (max (instI v p.c p.t.name) 0)), .val (.bool false)]) := by
 have H := tInst_c v p.c p.t.name
 rw [decide_eq_false h0] at H
 generalize instI v p.c p.t.name = ii at *
 obtain ⟨da, cl, ins⟩ := v
 obtain ⟨pc, ⟨tk, ts, tn, tl⟩⟩ := p
 simp only [En.cells, Pr.cells, Ty.cells, Pr.c, Pr.t, Ty.name] at H ⊢
 refine Zw Tryz.func29 V (by kernel_rfl) V (Uf V) ?_
 refine Yf (Zg (Zc (Za 2 V V V (Ys (cs' := [_, _, _]) V V V V (Za 3 V V V (Ys (cs' := [_, _, _, _, _]) V V V V (Za 4 V V V (Ze V V (Za 5 V V V (Ze V V (Vs (Zb (Zg (Zc (Za 9 V V V (Yc (cs' := [_, _, _]) V Xw V V V (Za 10 V V V (Zj V Vb V V (Za 11 V V V (Zo V Xb V V (Za 12 V V V (Zj V Wk V V (Za 13 V V V (Zj V Wp V V ?_))))))))))))))))))))))))
 refine Za 14 V V V (Zo V Xb V V (Za 15 V V V (Ym (xs := [.tmp 9, .tmp 11, .tmp 14]) V V (H) by1 ?_)))
 refine Za 8 V V V (Zd V V (Za 16 V V V (Yv V V V (Za 17 V V V (Yv V V V (Za 6 V V V (Ze V V (Za 7 V V V (Ze V V (Vs (Zb (Zg (Vl Wo V (Zm 18 V V (Zd V V ⟨V, V⟩) ?_))))))))))))))
 refine Zm 19 V V (Zd V V ⟨V, V⟩) ?_
 refine Zm 20 V V (Zd V V ⟨V, V⟩) ?_
 refine Zf 21 V V V V (Zf 22 V V V V (Zf 23 V V V V (Zf 24 V V V V (Zm 25 V V (Zn V V V ⟨V, V⟩) ?_))))
 refine Zm 26 V V (Zd V V ⟨V, V⟩) ?_
 refine Zf 27 V V V V (Zf 28 V V V V (Zf 29 V V V V (Zf 30 V V V V (Zf 31 V V V V (Zf 32 V V V V (Zf 33 V V V V (Zf 34 V V V V (Zf 35 V V V V (Zf 36 V V V V (Zf 37 V V V V (Zf 38 V V V V ?_)))))))))))
 refine Zf 39 V V V V (Zm 40 V V (Zn V V V ⟨V, V⟩) ?_)
 refine Zm 4 V V (Ze V V ⟨V, V⟩) ?_
 refine Zm 5 V V (Ze V V ⟨V, V⟩) ?_
 show AGo _ _ _ _ _ _ _
 refine Zb (Ya ?_)
 exact out_tt V V V (Vz _) by3 ⟨V, V⟩
theorem fits_yes (v : En) (p : Pr) (y : In) (h0 : 0 ≤ instI v p.c p.t.name) (hy : v.ins[(instI v p.c p.t.name).toNat]? = some y) (f : Bool) (hf : f = true ↔ (p.t.kind = 3 ∧ p.t.kids.length = y.hd.kids.length)) : PCall Tryz.prog 29 [.agg v.cells, .agg p.cells] (.tup [.val (.int .i64 (max (instI v p.c p.t.name) 0)), .val (.bool f)]) := by
 have H := tInst_c v p.c p.t.name
 rw [decide_eq_true h0] at H
 generalize instI v p.c p.t.name = ii at *
 obtain ⟨da, cl, ins⟩ := v
 obtain ⟨pc, ⟨tk, ts, tn, tl⟩⟩ := p
 have hlt := Ty.cellss_len tl
 simp only [En.cells, Pr.cells, Ty.cells, Pr.c, Pr.t, Ty.name, Ty.kind, Ty.kids, En.ins] at H hf hy ⊢
 have hcy := In.cellss_get hy
 obtain ⟨yc, ⟨yk, ys, yn, yl⟩, ycx, ybs, yp⟩ := y
 have hly := Ty.cellss_len yl
 simp only [In.cells, Ty.cells, List.cons_append, List.nil_append, In.hd] at hcy hf
 refine Zw Tryz.func29 V (by kernel_rfl) V (Uf V) ?_
 refine Yf (Zg (Zc (Za 2 V V V (Ys (cs' := [_, _, _]) V V V V (Za 3 V V V (Ys (cs' := [_, _, _, _, _]) V V V V (Za 4 V V V (Ze V V (Za 5 V V V (Ze V V (Vs (Zb (Zg (Zc (Za 9 V V V (Yc (cs' := [_, _, _]) V Xw V V V (Za 10 V V V (Zj V Vb V V (Za 11 V V V (Zo V Xb V V (Za 12 V V V (Zj V Wk V V (Za 13 V V V (Zj V Wp V V ?_))))))))))))))))))))))))
 refine Za 14 V V V (Zo V Xb V V (Za 15 V V V (Ym (xs := [.tmp 9, .tmp 11, .tmp 14]) V V (H) by1 ?_)))
 refine Za 8 V V V (Zd V V (Za 16 V V V (Yv V V V (Za 17 V V V (Yv V V V (Za 6 V V V (Ze V V (Za 7 V V V (Ze V V (Vs (Zb (Zg (Vl Wo V (Zm 18 V V (Zd V V ⟨V, V⟩) ?_))))))))))))))
 refine Zm 19 V V (Zd V V ⟨V, V⟩) ?_
 refine Zm 20 V V (Zd V V ⟨V, V⟩) ?_
 refine Zu 21 V V V V (Zj V Wk V V ⟨V, V⟩) ?_
 refine Zu 22 V V V V (Zj V tf_25_0 V V ⟨V, V⟩) ?_
 refine Zu 23 V V V V (Zo V Xa V V ⟨V, V⟩) ?_
 refine Xi 24 V V V V (fun _ q => Yr V V V q) ?_; intro c24 h24
 refine Zm 25 V V (Zn V V V ⟨V, V⟩) ?_
 refine Zm 26 V V (Zd V V ⟨V, V⟩) ?_
 rcases Zi h24 with ⟨rfl, g24⟩ | ⟨rfl, g24⟩
 ·skip
  refine Zf 27 V V V V (Zf 28 V V V V (Zf 29 V V V V (Zf 30 V V V V (Zf 31 V V V V (Zf 32 V V V V (Zf 33 V V V V (Zf 34 V V V V (Zf 35 V V V V (Zf 36 V V V V (Zf 37 V V V V (Zf 38 V V V V ?_)))))))))))
  refine Zf 39 V V V V (Zm 40 V V (Zn V V V ⟨V, V⟩) ?_)
  refine Zm 4 V V (Ze V V ⟨V, V⟩) ?_
  refine Zm 5 V V (Ze V V ⟨V, V⟩) ?_
  show AGo _ _ _ _ _ _ _
  refine Zb (Ya ?_)
  first
  | (obtain rfl : f = false := by cases f with | false => rfl | true => exact absurd (hf.1 rfl).1 g24
     exact out_tt V V V (Vz _) by3 ⟨V, V⟩)
  | (obtain rfl : c39 = f := by
      cases c39 with
      | false => cases f with
       | false => rfl
       | true => exact absurd (h39.2 (by have := (hf.1 rfl).2; omega)) (by simp)
      | true => exact (hf.2 ⟨g24, by have := h39.1 rfl; omega⟩).symm
     exact out_tt V V V (Vz _) by3 ⟨V, V⟩)
 skip
 refine Zu 27 V V V V (Zj V Wk V V ⟨V, V⟩) ?_
 refine Zu 28 V V V V (Zj V Wc V V ⟨V, V⟩) ?_
 refine Zu 29 V V V V (Zo V Vg V V ⟨V, V⟩) ?_
 refine Zu 30 V V V V (Yy V tu_23 V (.seq _ _) (fun _ => ⟨V, V⟩)) ?_
 refine Zu 31 V V V V (Zj V Vc V V ⟨V, V⟩) ?_
 refine Zu 32 V V V V (Zo V ta_36 V V ⟨V, V⟩) ?_
 refine Zu 33 V V V V (Zd V V ⟨V, V⟩) ?_
 refine Zu 34 V V V V (Yd (i := ii.toNat) V te_36 V (.seq _ _) V (by first | rfl | omega) (hcy) ⟨V, V⟩) ?_
 refine Zu 35 V V V V (Zj V Vd V V ⟨V, V⟩) ?_
 refine Zu 36 V V V V (Zj V Wc V V ⟨V, V⟩) ?_
 refine Zu 37 V V V V (Zo V Vg V V ⟨V, V⟩) ?_
 refine Zu 38 V V V V (Yy V tu_23 V (.seq _ _) (fun _ => ⟨V, V⟩)) ?_
 refine Xi 39 V V V V (fun _ q => Yr V V V q) ?_; intro c39 h39
 refine Zm 40 V V (Zn V V V ⟨V, V⟩) ?_
 refine Zm 4 V V (Ze V V ⟨V, V⟩) ?_
 refine Zm 5 V V (Ze V V ⟨V, V⟩) ?_
 show AGo _ _ _ _ _ _ _
 refine Zb (Ya ?_)
 first
 | (obtain rfl : f = false := by cases f with | false => rfl | true => exact absurd (hf.1 rfl).1 g24
    exact out_tt V V V (Vz _) by3 ⟨V, V⟩)
 | (obtain rfl : c39 = f := by
     cases c39 with
     | false => cases f with
      | false => rfl
      | true => exact absurd (h39.2 (by have := (hf.1 rfl).2; omega)) (by simp)
     | true => exact (hf.2 ⟨g24, by have := h39.1 rfl; omega⟩).symm
    exact out_tt V V V (Vz _) by3 ⟨V, V⟩)
theorem fits_c (v : En) (p : Pr) : PCall Tryz.prog 29 [.agg v.cells, .agg p.cells] (.tup [.val (.int .i64 (max (instI v p.c p.t.name) 0)), .val (.bool (fitsR v p))]) := by
 by_cases h : 0 ≤ instI v p.c p.t.name
 ·obtain ⟨y, hy, _, _⟩ := instI_hit h
  refine fits_yes v p y h hy _ ?_
  unfold fitsR
  rw [hy]
  simp [h]
 have hf : fitsR v p = false := by unfold fitsR; simp [h]
 rw [hf]; exact fits_no v p h
theorem Above1_c (v : En) (hS : (allSup v).length ≤ 10000000000) (b5 b6 : Nat) : ∀ (n : Nat) (c : ByteArray) (met : List ByteArray) (u : Value), lack (allSup v) met < n → met.length + lack (allSup v) met ≤ (allSup v).length →
    ACall Tryz.prog 66 [.val (.string c), .cptr v.cells, .ptr b5 0, .ptr b6 0] [.loc b5 [.own u 1 (strs met)], .own 9 1 u, .loc b6 [.clo (.func 66) [] [.cptr v.cells, .ptr b5 0, .ptr b6 0]]]
     (fun r M' => ∃ u', r = .tup [] ∧ M' = [.loc b5 [.own u' 1 (strs (overF v n c met))], .own 9 1 u', .loc b6 [.clo (.func 66) [] [.cptr v.cells, .ptr b5 0, .ptr b6 0]]])
 | 0, c, met, u, h1, h2 => by omega
 | n + 1, c, met, u, h1, h2 => by
  have IH := fun s m u a b => Above1_c v hS b5 b6 n s m u a b
  have HC := tClass_c v c
  have hsub := supersOf_sub v c
  have hcb := findI_bd (fun (x : Cl) => sameB x.s c) v.cl
  obtain ⟨r, hr⟩ : ∃ r, overF v (n + 1) c met = r := ⟨_, rfl⟩
  rw [hr]
  rw [overF] at hr
  obtain ⟨ss, hss⟩ : ∃ l, supersOf v c = l := ⟨_, rfl⟩
  rw [hss] at hr hsub
  unfold supersOf at hss
  have hci : classI v c = findI (fun (x : Cl) => sameB x.s c) v.cl 0 := rfl
  rw [← hci] at hcb
  clear hci
  generalize classI v c = ci at *
  obtain ⟨da, cl, ins⟩ := v
  have hl := Cl.cellss_len cl
  have hsl := Xt ss
  simp only [En.cells, En.cl] at HC hss hcb IH ⊢
  generalize hAll : allSup (En.mk da cl ins) = all at *
  refine Zw Tryz.func66 V (by kernel_rfl) V (Uf V) ?_
  refine Yf (Zg (Zc (Za 10 V V V (Yc (cs' := [_, _, _]) V Xw V V V (Za 11 V V V (Zd V V (Za 12 V V V (Ym (xs := [.tmp 10, .tmp 11]) V V (HC) by1 ?_))))))))
  refine Za 9 V V V (Zd V V (Za 13 V V V (Yv V V V (Za 14 V V V (Yv V V V (Za 5 V V V (Ze V V (Za 6 V V V (Ze V V (Vs (Zb (Zg (Zg (Zc (Za 15 V V V (Zd V V (Za 16 V V V (Xr V V ?_)))))))))))))))))); intro c16 h16
  try replace h16 := nott h16 h14
  refine Vs (Zb ?_)
  rcases Zi h16 with ⟨rfl, g16⟩ | ⟨rfl, g16⟩
  ·refine Zr V (Zv (Zb (Zg ?_)))
   have hp : ¬ ci < 0 := by simpa using g16
   rw [if_neg hp] at hr
   obtain ⟨x, hx⟩ := Yw (l := cl) (i := ci.toNat) (by omega)
   rw [hx] at hss
   have hcx := Cl.cellss_get hx
   obtain ⟨xs, xv, xsu, xms, xds, xp⟩ := x
   obtain rfl : xsu = ss := hss
   refine Zc (Za 17 V V V (Zj V Wi V V (Za 18 V V V (Zo V Vm V V (Za 19 V V V (Zd V V ?_))))))
   refine Za 20 V V V (Yd (i := ci.toNat) V te_35 V (.seq _ _) V (by first | rfl | omega) (hcx) ?_)
   refine Za 21 V V V (Zj V tf_77_2 V V (Za 22 V V V (Zo V ta_68 V V ?_)))
   refine Za 23 V V V (Yy V tu_68 V (.seq _ _) (fun n23 => ?_))
   refine Za 24 V V V (Zd V V (Vs (Zb (Zz ?_))))
   apply Wg [0, 1, 4, 5, 6, 7, 8, 9, 10, 11, 12, 13, 14, 15, 16, 17, 18, 19, 20, 21, 24, 25, 26, 27, 28, 29, 30, 31, 32, 33, 34, 35, 36, 37, 38, 39] (σ := Nat × List ByteArray × Value) (fun zz => match zz with | (i, m, w) => [(24, .val (.int .i64 i))]) (fun zz => match zz with | (i, m, w) => [.loc b5 [.own w 1 (strs m)], .own 9 1 w, .loc b6 [.clo (.func 66) [] [.cptr [.seq 5 (Da.cellss da), .seq 6 (Cl.cellss cl), .seq 8 (In.cellss ins)], .ptr b5 0, .ptr b6 0]]]) (fun zz => match zz with | (i, m, w) => i ≤ xsu.length ∧ overL (overF (En.mk da cl ins) n) (xsu.drop i) m = r ∧ lack all m < n + 1 ∧ m.length + lack all m ≤ all.length) (fun zz => match zz with | (i, m, w) => xsu.length - i) ((0, met, u))
   ·repeat' (first | exact Ui | apply Ug rfl | apply Uh rfl)
   ·exact ⟨Nat.zero_le _, hr, h1, h2⟩
   ·exact by4
   ·exact by3
   rintro ⟨i, m, w⟩ hI
   try dsimp only [List.cons_append, List.nil_append] at hI ⊢
   obtain ⟨i1, hu, i3, i4⟩ := hI
   have hle : (strs m).length ≤ 10000000000 := by rw [Xt]; omega
   refine c_lens (t := 22) V (.seq _ _) (fun hmx => ?_)
   refine Zg (Zc (Za 25 V V V (Yu V V V ?_))); intro c25 h25
   refine Vs (Zb (Zg ?_))
   rcases Zi h25 with ⟨rfl, g25⟩ | ⟨rfl, g25⟩
   ·refine Zr V (Xc (Xe (Xv (Xd (go_end ?_)))))
    rw [Ul (by omega), overL] at hu; subst hu; exact out_none rfl (Vt _) ⟨w, rfl, rfl⟩
   refine Zt V (Zv (Zb (Zg (Zz (Zg ?_)))))
   obtain ⟨s, hxs⟩ := Yw (l := xsu) (i := i) by7
   have hcs := strs_get hxs
   have hms := Uk hxs
   rw [Xp hxs] at hu
   refine Zc (Za 26 V V V (Yd V te_68 V (.seq _ _) V V (hcs) (Za 27 V V V (Zo V Xb V V (Za 8 V V V (Ze V V (Vs (Zb (Zg (Zc (Za 28 V V V (Zp (i := 0) V ta_68 V V V (Za 29 V V V (Zd V V (Za 30 V V V (Yg (xs := [.tmp 28, .tmp 29]) V V (ContainsS_c m s) by1 ?_)))))))))))))))); intro c30 h30
   refine Za 31 V V V (Xr V V ?_); intro c31 h31
   try replace h31 := nott h31 h30
   refine Vs (Zb ?_)
   rcases Zi h31 with ⟨rfl, g31⟩ | ⟨rfl, g31⟩
   ·refine Zr V (Zv (Yt (Zb (Zc (Za 39 V V V (Yx V V V (Uj _ (by omega)) ?_))))))
    refine Za 24 V V V (Zd V V (Vs (Yz ?_)))
    first
    | (rw [overL_skip (Classical.not_not.1 g31)] at hu; exact ⟨(i + 1, m, w), ⟨by8, hu, i3, i4⟩, by show xsu.length - (i + 1) < xsu.length - i; omega, by4, (Vy rfl)⟩)
    | exact ⟨(i + 1, overF (En.mk da cl ins) n s (m ++ [s]), u38), ⟨by8, hu, by have := hgr.2.1; show lack all (overF (En.mk da cl ins) n s (m ++ [s])) < n + 1; omega, by have := hgr.1; simp only [List.length_append, List.length_singleton] at this; show (overF (En.mk da cl ins) n s (m ++ [s])).length + lack all (overF (En.mk da cl ins) n s (m ++ [s])) ≤ all.length; omega⟩, by show xsu.length - (i + 1) < xsu.length - i; omega, by4, (Vy rfl)⟩
   refine Zt V (Zg ?_)
   rw [overL_go g31] at hu
   have hlk := lack_lt (hsub s hms) (by rw [hasB_no g31]; simp)
   have hgr := overF_grow (En.mk da cl ins) n s (m ++ [s])
   rw [hAll] at hgr
   have HO : ∀ u, ACall Tryz.prog 66 [.val (.string s), .cptr [.seq 5 (Da.cellss da), .seq 6 (Cl.cellss cl), .seq 8 (In.cellss ins)], .ptr b5 0, .ptr b6 0] [.loc b5 [.own u 1 (strs m ++ [[.val (.string s)]])], .own 9 1 u, .loc b6 [.clo (.func 66) [] [.cptr [.seq 5 (Da.cellss da), .seq 6 (Cl.cellss cl), .seq 8 (In.cellss ins)], .ptr b5 0, .ptr b6 0]]]
       (fun r M' => ∃ u', r = .tup [] ∧ M' = [.loc b5 [.own u' 1 (strs (overF (En.mk da cl ins) n s (m ++ [s])))], .own 9 1 u', .loc b6 [.clo (.func 66) [] [.cptr [.seq 5 (Da.cellss da), .seq 6 (Cl.cellss cl), .seq 8 (In.cellss ins)], .ptr b5 0, .ptr b6 0]]]) := fun u => by
    rw [strs_snoc]
    exact IH s (m ++ [s]) u (by omega) (by simp; omega)
   refine Zc (Za 32 V V V (Zp (i := 0) V ta_68 V V V (Za 33 V V V (Zd V V (Za 34 V V V (Ye (xs := [.tmp 33]) el_68 V V V V V V (Uf V) (Za 35 V V V (Xj (i := 1) el_68 V V V V (.seq _ _) by6 ?_))))))))
   intro u35
   refine Zs V V (Zq (i := 0) V ts_68 V V V V V (Uf V) V (Vs (Zb (Zc (Za 36 V V V (Zp (i := 2) V ta_123 V V V (Za 37 V V V (Zd V V (Za 38 V V V (op_callvat [0, 0, 0] (xs := [.tmp 37])  V V V V (HO u35) by1 ?_))))))))))
   rintro v38 M38 ⟨u38, rfl, rfl⟩
   refine Vs (Yt (Zb (Zc (Za 39 V V V (Yx V V V (Uj _ (by omega)) ?_)))))
   refine Za 24 V V V (Zd V V (Vs (Yz ?_)))
   first
   | (rw [overL_skip (Classical.not_not.1 g31)] at hu; exact ⟨(i + 1, m, w), ⟨by8, hu, i3, i4⟩, by show xsu.length - (i + 1) < xsu.length - i; omega, by4, (Vy rfl)⟩)
   | exact ⟨(i + 1, overF (En.mk da cl ins) n s (m ++ [s]), u38), ⟨by8, hu, by have := hgr.2.1; show lack all (overF (En.mk da cl ins) n s (m ++ [s])) < n + 1; omega, by have := hgr.1; simp only [List.length_append, List.length_singleton] at this; show (overF (En.mk da cl ins) n s (m ++ [s])).length + lack all (overF (En.mk da cl ins) n s (m ++ [s])) ≤ all.length; omega⟩, by show xsu.length - (i + 1) < xsu.length - i; omega, by4, (Vy rfl)⟩
  refine Zt V (Ya ?_)
  have hn : ci < 0 := by simpa using g16
  rw [if_pos hn] at hr; subst hr; exact out_none' rfl (Vt _) ⟨u, rfl, rfl⟩
theorem les_eq {cs cs' : List AV} (h : cs = cs') : Les cs cs' := by rw [h]; exact Ua _
abbrev zTy : List AV := [.val (.int .i64 0), .val (.string ⟨#[]⟩), .val (.int .i64 0), .val (.slice none 0 0)]
theorem none_c (x : Ty) (o : Ty → Option Ty) (ho : o x = none) : ACall Tryz.prog 74 [.agg x.cells] [] (fun v M' => [] = M' ∧ ∃ (y : Ty) (c : Bool), v = .tup [.agg y.cells, .val (.bool c)] ∧ o x = if c then some y else none) := by
 obtain ⟨k, s, n, ks⟩ := x
 refine Zw Tryz.func74 V (by kernel_rfl) V (Uf V) ?_
 refine Yf (Zg (Zc (Za 1 V V V (op_boxe (cs' := [_, _, _, _]) V V V V ?_)))); intro b1
 refine Za 2 V V V (Zy (cs' := [_, _, _, _]) V tz_25 V V ?_); intro b2
 exact Za 3 V V V (Ze V V (Vs (Zb (Zg (Zc (Za 4 V V V (Zx (cs' := [_, _, _, _]) (i := 1) V Xz V V V V (Zs V V (Zq (cs' := [_, _, _, _]) (i := 0) V ts_25 V V V V V (Uf V) V (Za 3 V V V (Ze V V (Vs (Zb (Ya (Wz (i := 0) V V V V Xz V by2 by3 ⟨V, .mk k s n ks, false, V, ho⟩)))))))))))))))
theorem turn_es (o : Ty → Option Ty) (ks : List Ty) (i : Nat) (x : Ty) (hx : ks[i]? = some x) (zc : List AV) :
    (Ty.cellss (Ty.turns o (ks.take i)) ++ List.replicate (ks.length - i) zc).set i (x.turn o).cells = Ty.cellss (Ty.turns o (ks.take (i + 1))) ++ List.replicate (ks.length - (i + 1)) zc := by
 have hi : i < ks.length := by
  rcases Nat.lt_or_ge i ks.length with k | k
  ·exact k
  rw [List.getElem?_eq_none k] at hx; simp at hx
 have hl : (Ty.cellss (Ty.turns o (ks.take i))).length = i := by rw [Ty.cellss_len, Ty.turns_len]; simp; omega
 rw [List.set_append_right _ _ (by omega), hl, Nat.sub_self, show ks.length - i = (ks.length - (i + 1)) + 1 from by omega, List.replicate_succ, List.set_cons_zero, Wl hx, Ty.turns_snoc, Ty.cellss_app]
 simp [Ty.cellss]
theorem turn_wide (o : Ty → Option Ty) (ks : List Ty) (i : Nat) (zc : List AV) (hz : zc.length = 4) : ∀ e ∈ Ty.cellss (Ty.turns o (ks.take i)) ++ List.replicate (ks.length - i) zc, e.length = 4 := by
 intro e he
 rcases List.mem_append.1 he with q | q
 ·rw [Ty.cellss_map] at q
  obtain ⟨⟨k, s, n, l⟩, _, rfl⟩ := List.mem_map.1 q
  rfl
 rw [List.eq_of_mem_replicate q]; exact hz
theorem turn_c (o : Ty → Option Ty) (f : FuncId) (fs cs : List AV) (Mc : Mem)
    (hf : ∀ x, ACall Tryz.prog f (fs ++ [.agg (Ty.cells x)] ++ cs) Mc (fun v M' => Mc = M' ∧ ∃ (y : Ty) (c : Bool), v = .tup [.agg y.cells, .val (.bool c)] ∧ o x = if c then some y else none)) (d : Nat) :
    ∀ t : Ty, t.size ≤ d → t.size ≤ 1000000 → ACall Tryz.prog 72 [.agg t.cells, .clo (.func f) fs cs] Mc (fun v M' => v = .agg (t.turn o).cells ∧ Mc = M') := by
 induction d with
 | zero => intro t hd; have := Ty.size_pos t; omega
 | succ d ih =>
  rintro ⟨k, s, n, ks⟩ hd hmx
  have hl := Ty.cellss_len ks
  have hls := Ty.len_sizes ks
  rw [Ty.size] at hd hmx
  refine Zw Tryz.func72 V (by kernel_rfl) V (Uf V) ?_
  refine Yf (Zg (Zc (Za 2 V V V (op_boxe (cs' := [_, _, _, _]) V V V V ?_)))); intro b2
  refine Za 4 V V V (Zy (cs' := [_, _, _, _]) V tz_25 V V ?_); intro b4
  refine Vs (Zb (Zg (Zg (Zc (Za 11 V V V (Zd V V (Za 12 V V V (Zx (cs' := [_, _, _, _]) (i := 1) V Xz V V V V ?_))))))))
  refine Za 13 V V V (op_callvm (xs := [.tmp 12])  [.loc b4 _, .loc b2 _] V V V V (hf (.mk k s n ks)) (Ua _) (fun v13 M13 h13 => ?_))
  obtain ⟨rfl, ⟨yk, ys, yn, yks⟩, c15, rfl, hc⟩ := h13
  refine Za 10 V V V (Zd V V (Za 14 V V V (Yv V V V (Za 15 V V V (Yv V V V (Za 5 V V V (Zy (cs' := [_, _, _, _]) V tz_25 V V ?_))))))); intro b5
  refine Zs V V (Zq (cs' := [_, _, _, _]) (i := 0) V ts_25 V V V V V (Uf V) V (Za 6 V V V (Ze V V (Vs (Zb (Zg (Zc (Za 16 V V V (Zd V V (Vs (Zb ?_)))))))))))
  rcases c15 with _ | _
  ·refine Zr V (Zv (Zb (Zg (Zc (Za 18 V V V (Zh V Wc V (Za 19 V V V (Zp (i := 2) V Vg V V V ?_))))))))
   refine Za 20 V V V (Yy V tu_23 V (.seq _ _) (fun n20 => ?_))
   refine Za 21 V V V (op_makeSlice el_23 V V V (by omega) V ?_); intro b21
   refine Za 7 V V V (Ze V V (Vs (Zb (Zg (Zg (Zc (Za 22 V V V (Zh V Wc V (Za 23 V V V (Zp (i := 3) V Vg V V V ?_))))))))))
   refine Za 24 V V V (Yy V tu_23 V (.seq _ _) (fun n24 => ?_))
   refine Za 25 V V V (Zd V V (Vs (Zb (Zz ?_))))
   rw [hl]
   refine c_loop (σ := Nat) (fun zz => match zz with | i => [(1, .clo (.func f) fs cs), (2, .ptr b2 0), (4, .ptr b4 0), (7, .arr b21 0 ks.length ks.length), (23, .seq 4 (Ty.cellss ks)), (24, .val (.int .i64 ks.length)), (25, .val (.int .i64 i))]) (fun zz => match zz with | i => .loc b21 (Ty.cellss (Ty.turns o (ks.take i)) ++ List.replicate (ks.length - i) zTy).flatten :: .loc b5 (Ty.cells (.mk yk ys yn yks)) :: .loc b4 zTy :: .loc b2 (Ty.cells (.mk k s n ks)) :: Mc) (fun zz => match zz with | i => i ≤ ks.length) (fun zz => match zz with | i => ks.length - i) (0) ?_ ?_ ?_ ?_
   ·simp
   ·exact by4
   ·exact by3
   rintro i hI
   try dsimp only [List.cons_append, List.nil_append] at hI ⊢
   refine Zg (Zc (Za 26 V V V (Yu V V V ?_))); intro c26 h26
   refine Vs (Zb (Zg ?_))
   rcases Zi h26 with ⟨rfl, g26⟩ | ⟨rfl, g26⟩
   ·refine Zr V (Xc (Xe (Xv (Xd (Zb (Zg ?_))))))
    have hw := turn_wide o ks ks.length zTy rfl
    obtain rfl : i = ks.length := by omega
    simp only [List.take_length, Nat.sub_self, List.replicate_zero, List.append_nil] at hw ⊢
    refine c_freeze (i := 0) (al' := [(2, .ptr b2 0), (4, .ptr b4 0), (7, .seq 4 (Ty.cellss (Ty.turns o ks)))]) V V hw (by rw [Ty.cellss_len, Ty.turns_len]) (by omega) (Frz.cons V (Vz _) (Frz.cons V (Vz _) (Frz.arr V Frz.nil))) ?_
    refine Zc (Za 37 V V V (Zd V V (Za 38 V V V (Zh V Wc V (Zs V V (Zq (cs' := [_, _, _, _]) (i := 2) V ts_23 V V V V V (Uf V) V (Vs (Zb (Zg (Zc (Za 39 V V V (Zx (cs' := [_, _, _, _]) (i := 2) V Xz V V V V (Zs V V (Zq (cs' := [_, _, _, _]) (i := 1) V ts_25 V V V V V (Uf V) V (Vs (Zb (Ya ?_)))))))))))))))))
    rw [Ty.turn_none (by simpa using hc)]
    exact Yn (i := 1) V V V Xz V by2 (Vw _ (Vw _ (Vw _ (Vt _)))) ⟨V, V⟩
   refine Zt V (Zv (Zb (Zg (Zz (Zg ?_)))))
   obtain ⟨⟨k', s', n', ks'⟩, hx⟩ := Yw (l := ks) (i := i) (by omega)
   have hcx := Ty.cellss_get hx
   have hsz := Ty.size_at hx
   have H := ih (.mk k' s' n' ks') (by omega) (by omega)
   have he := turn_es o ks i _ hx zTy
   have hw := turn_wide o ks i zTy rfl
   have hln : (Ty.cellss (Ty.turns o (ks.take i)) ++ List.replicate (ks.length - i) zTy).length = ks.length := by rw [List.length_append, Ty.cellss_len, Ty.turns_len]; simp; omega
   generalize Ty.turn o _ = r at H he
   obtain ⟨rk, rs, rn, rks⟩ := r
   refine Zc (Za 27 V V V (Zd V V (Za 28 V V V (Yd V te_23 V (.seq _ _) V V (by assumption) ?_))))
   refine Za 29 V V V (Yc (cs' := [_, _, _, _]) V Xz V V V (Za 9 V V V (Zy (cs' := [_, _, _, _]) V tz_25 V V ?_))); intro b9
   refine Za 8 V V V (Ze V V (Zs V V (Zq (cs' := [_, _, _, _]) (i := 0) V ts_25 V V V V V (Uf V) V (Vs (Zb (Zc (Za 30 V V V (Zd V V (Za 31 V V V (Zd V V (Za 32 V V V (Zx (cs' := [_, _, _, _]) (i := 0) V Xz V V V V (Za 33 V V V (Zd V V ?_))))))))))))))
   refine Za 34 V V V (op_callm (xs := [.tmp 32, .tmp 33])  [.loc b9 _, .loc b21 _, .loc b5 _, .loc b4 _, .loc b2 _] V V V H (Ua _) (fun v34 M34 h34 => ?_))
   obtain ⟨rfl, rfl⟩ := h34
   refine Za 35 V V V (op_index_arr V te_23 V V V (by omega) ?_)
   refine Zs V V (op_store_row (k := 1) V ts_25 V V V V V (hw) ((by omega)) ?_)
   refine Vs (Yt (Zb (Zc (Za 36 V V V (Yx V V V (Uj _ (by omega)) ?_)))))
   refine Za 25 V V V (Zd V V (Vs (Yz ?_)))
   refine ⟨i + 1, by simp; omega, by simp; omega, by4, ?_⟩
   exact Vw _ (Vx _ (les_eq (congrArg List.flatten he)) (Vt _))
  refine Zt V (Zg (Zc (Za 17 V V V (Zx (cs' := [_, _, _, _]) (i := 0) V Xz V V V V (Zs V V (Zq (cs' := [_, _, _, _]) (i := 1) V ts_25 V V V V V (Uf V) V (Vs (Zb (Ya ?_)))))))))
  rw [Ty.turn_some (by simpa using hc)]
  exact Yn (i := 1) V V V Xz V by2 (Vw _ (Vw _ (Vw _ (Vt _)))) ⟨V, V⟩
theorem copy_c (t : Ty) (hmx : t.size ≤ 1000000) : PCall Tryz.prog 72 [.agg t.cells, .clo (.func 74) [] []] (.agg t.cells) := by
 have := turn_c (fun _ => none) 74 [] [] [] (fun x => none_c x (fun _ => none) rfl) t.size t (Nat.le_refl _) hmx
 rw [Ty.turn_id] at this
 exact this.mono (fun v M' ⟨h1, h2⟩ => ⟨h1, h2.symm⟩)
theorem PutF_c (names : List ByteArray) (ts : List Ty) (b3 b4 : Nat) (hts : ∀ t ∈ ts, t.size ≤ 1000000) (x : Ty) : ACall Tryz.prog 73 [.agg x.cells, .ptr b3 0, .ptr b4 0] [.loc b3 [.seq 1 (strs names)], .loc b4 [.seq 4 (Ty.cellss ts)]] (fun v M' => [.loc b3 [.seq 1 (strs names)], .loc b4 [.seq 4 (Ty.cellss ts)]] = M' ∧ ∃ (y : Ty) (c : Bool), v = .tup [.agg y.cells, .val (.bool c)] ∧ putO names ts x = if c then some y else none) := by
 obtain ⟨k, s, n, ks⟩ := x
 have hl := Ty.cellss_len ts
 have hfl := firstAt_lt s names 0
 refine Zw Tryz.func73 V (by kernel_rfl) V (Uf V) ?_
 refine Yf (Zg (Zc (Za 3 V V V (op_boxe (cs' := [_, _, _, _]) V V V V ?_)))); intro b3
 refine Za 4 V V V (Zy (cs' := [_, _, _, _]) V tz_25 V V ?_); intro b4
 refine Za 5 V V V (Ze V V (Vs (Zb (Zg (Zg (Zc (Za 7 V V V (Zh V tf_25_0 V (Za 8 V V V (Zp (i := 1) V Xa V V V (Za 9 V V V (Xq V V V ?_)))))))))))); intro c9 h9
 refine Vs (Zb ?_)
 rcases Zi h9 with ⟨rfl, g9⟩ | ⟨rfl, g9⟩
 ·refine Zr V (Zv (Zb (Zg (Zc (Za 11 V V V (Zp (i := 2) V ta_68 V V V (Za 12 V V V (Zh V Wp V (Za 13 V V V (Zp (i := 1) V Xb V V V (Za 14 V V V (Ym (xs := [.tmp 11, .tmp 13]) V V (IndexS_c names s) by1 ?_))))))))))))
  refine Za 6 V V V (Ze V V (Vs (Zb (Zg (Zg (Xl 22 (firstAt s names 0 < 0 ∨ (ts.length : Int) ≤ firstAt s names 0) ?_ _ _ V ?_))))))
  ·skip
   refine Za 15 V V V (Zd V V (Za 16 V V V (Yu V V V ?_))); intro c16 h16
   refine Za 17 V V V (Zd V V ?_)
   rcases Zi h16 with ⟨rfl, g16⟩ | ⟨rfl, g16⟩
   ·skip
    refine Zl 18 V V V V V (Zd V V (Zl 19 V V V V V (Zp (i := 3) V Vg V V V ?_)))
    refine Zl 20 V V V V V (Yy V tu_23 V (.seq _ _) (fun n20 => ?_))
    refine Zl 21 V V V V V (Wa V V V ?_); intro c21 h21
    refine Za 22 V V V (Zn V V V (Vs (Ud V ?_ by5 by3)))
    simp_all; omega
   skip
   refine Zk 18 V V V V V (Zk 19 V V V V V (Zk 20 V V V V V (Zk 21 V V V V V (Za 22 V V V (Zn V V V (Vs (Ud V ?_ by5 by3)))))))
   simp_all; done
  intro c22 h22
  refine Zb ?_
  rcases Zi h22 with ⟨rfl, g22⟩ | ⟨rfl, g22⟩
  ·refine Zr V (Zv (Zb (Zg ?_)))
   obtain ⟨j, hj⟩ : ∃ j : Nat, firstAt s names 0 = j := ⟨(firstAt s names 0).toNat, by omega⟩
   obtain ⟨⟨yk, ys, yn, yks⟩, hy⟩ := Yw (l := ts) (i := j) (by omega)
   have hcy := Ty.cellss_get hy
   rw [hj]
   obtain rfl : k = 1 := by simpa using g9
   refine Zc (Za 24 V V V (Zp (i := 3) V Vg V V V (Za 25 V V V (Zd V V (Za 26 V V V (Yd V te_23 V (.seq _ _) V V (by assumption) ?_))))))
   refine Za 27 V V V (Yc (cs' := [_, _, _, _]) V Xz V V V (Za 28 V V V (Ym (xs := [.tmp 27, .func 74]) V V (copy_c (.mk yk ys yn yks) (hts _ (Uk hy))) by1 ?_)))
   refine Zs V V (Zq (cs' := [_, _, _, _]) (i := 0) V ts_25 V V V V V (Uf V) V (Za 5 V V V (Ze V V (Vs (Zb (Ya ?_))))))
   exact Wz (i := 0) V V V V Xz V by2 (Vw _ (Vw _ (Vt _))) ⟨V, .mk yk ys yn yks, true, V, by rw [putO_in hj, hy]; rfl⟩
  refine Zt V (Zg (Zc (Za 23 V V V (Zx (cs' := [_, _, _, _]) (i := 1) V Xz V V V V (Zs V V (Zq (cs' := [_, _, _, _]) (i := 0) V ts_25 V V V V V (Uf V) V (Za 5 V V V (Ze V V (Vs (Zb (Ya ?_)))))))))))
  exact Wz (i := 0) rfl rfl rfl rfl Xz rfl by2 (Vw _ (Vw _ (Vt _))) ⟨rfl, .mk k s n ks, false, rfl, by rcases g22 with q | q; exact putO_out q; exact putO_big q⟩
 exact Zt V (Zg (Zc (Za 10 V V V (Zx (cs' := [_, _, _, _]) (i := 1) V Xz V V V V (Zs V V (Zq (cs' := [_, _, _, _]) (i := 0) V ts_25 V V V V V (Uf V) V (Za 5 V V V (Ze V V (Vs (Zb (Ya (Wz (i := 0) V V V V Xz V by2 (Vw _ (Vw _ (Vt _))) ⟨V, .mk k s n ks, false, V, putO_not g9⟩))))))))))))
theorem Put_c (names : List ByteArray) (ts : List Ty) (t : Ty) (hts : ∀ t ∈ ts, t.size ≤ 1000000) (hmx : t.size ≤ 1000000) : PCall Tryz.prog 44 [.seq 1 (strs names), .seq 4 (Ty.cellss ts), .agg t.cells] (.agg (t.turn (putO names ts)).cells) := by
 have W := fun (b3 b4 : Nat) => turn_c (putO names ts) 73 [] [.ptr b3 0, .ptr b4 0] [.loc b3 [.seq 1 (strs names)], .loc b4 [.seq 4 (Ty.cellss ts)]] (fun x => PutF_c names ts b3 b4 hts x) t.size t (Nat.le_refl _) hmx
 generalize Ty.turn _ t = r at W ⊢
 obtain ⟨rk, rs, rn, rks⟩ := r
 obtain ⟨k, s, n, ks⟩ := t
 refine Zw Tryz.func44 V (by kernel_rfl) V (Uf V) ?_
 refine Yf (Zg (Zc (Za 3 V V V (op_boxe (cs' := [_]) V V V V ?_)))); intro b3
 refine Za 4 V V V (op_boxe (cs' := [_]) V V V V ?_); intro b4
 refine Za 5 V V V (op_boxe (cs' := [_, _, _, _]) V V V V ?_); intro b5
 refine Za 6 V V V (Zy (cs' := [_, _, _, _]) V tz_25 V V ?_); intro b6
 refine Vs (Zb (Zg (c_mem (M' := [.loc b6 zTy, .loc b5 _, .loc b3 [.seq 1 (strs names)], .loc b4 [.seq 4 (Ty.cellss ts)]]) (MImp.cons _ (MImp.cons _ (MImp.swap _ _ _))) (Zc (Za 7 V V V (Zx (cs' := [_, _, _, _]) (i := 1) V Xz V V V V (Za 8 V V V (op_makeFunc (fs := []) (cs := [.tmp 3, .tmp 4]) V V V ?_))))))))
 refine Za 9 V V V (op_callm (xs := [.tmp 7, .tmp 8])  [.loc b6 _, .loc b5 _] V V V (W b3 b4) (Ua _) (fun v9 M9 h9 => ?_))
 obtain ⟨rfl, rfl⟩ := h9
 exact Zs V V (Zq (cs' := [_, _, _, _]) (i := 0) V ts_25 V V V V V (Uf V) V (Vs (Zb (Ya (Yn (i := 0) V V V Xz V by2 by3 ⟨V, V⟩)))))
theorem tAbove_c (v : En) (hS : (allSup v).length ≤ 10000000000) (c : ByteArray) : OCall Tryz.prog 32 [.agg v.cells, .val (.string c)] 9 1 (strs (aboveR v c)) := by
 have H := fun b5 b6 => Above1_c v hS b5 b6 ((allSup v).length + 1) c [] (.slice none 0 0) (by rw [lack_nil]; omega) (by rw [lack_nil]; simp)
 obtain ⟨da, cl, ins⟩ := v
 have he : overF (En.mk da cl ins) ((allSup (En.mk da cl ins)).length + 1) c [] = aboveR (En.mk da cl ins) c := rfl
 rw [he] at H
 simp only [En.cells] at H ⊢
 refine Zw Tryz.func32 V (by kernel_rfl) V (Uf V) ?_
 refine Yf (Zg (Zc (Za 2 V V V (Ys (cs' := [_, _, _]) V V V V (Za 4 V V V (Ze V V (Vs (Zb (Zg (Zc (Za 5 V V V (Zy (cs' := [_]) V tz_68 V V ?_)))))))))))); intro b5
 refine Vs (Zb (Zg (Zc (Za 6 V V V (Zy (cs' := [_]) V tz_123 V V ?_))))); intro b6
 refine Vs (Zb (Zg (Zc (Za 7 V V V (op_makeFunc (fs := []) (cs := [.tmp 2, .tmp 5, .tmp 6]) V V V (Zs V V (Zq (cs' := [_]) (i := 0) V ts_123 V V V V V (Uf V) V (Vs (Zb (Zg (We 9 1 (c_le (SLe.refl _) (Vv _ (Vx _ (Ub (Le.nilOwn 1) (Ua _)) (Vt _))) (Zc (Za 8 V V V (Zp (i := 0) V ta_123 V V V (Za 9 V V V (Zd V V (Za 10 V V V (op_callvat [1, 1, 0] (xs := [.tmp 9])  V V V V (H b5 b6) by1 ?_)))))))))))))))))))
 rintro v10 M10 ⟨u10, rfl, rfl⟩
 exact Vs (Zb (Zg (Zc (Za 11 V V V (Zp (i := 0) V ta_68 V V V (Za 4 V V V (Ze V V (Vs (Zb (Ya (Yh V V (Vz _) (Vw _ (Vv _ (Vu _))) ⟨u10, V, V⟩)))))))))))
structure EnG (v : En) : Prop where
 b : EnB v
 cv : ∀ x ∈ v.ins, CtxV x.cx
def needsR (v : En) (inst : Int) (t : Ty) : List Pr := match v.ins[inst.toNat]? with
 | none => []
 | some x => if inst < 0 ∨ t.kind ≠ 3 ∨ t.kids.length ≠ x.hd.kids.length then [] else x.cx.map fun p => Pr.mk p.c (p.t.turn (putO (varsR x) t.kids))
theorem Needs_out (v : En) (inst : Int) (t : Ty) (h : inst < 0 ∨ v.ins.length ≤ inst) : PCall Tryz.prog 17 [.agg v.cells, .val (.int .i64 inst), .agg t.cells] (.seq 5 []) := by
 obtain ⟨da, cl, ins⟩ := v
 obtain ⟨tk, ts, tn, tl⟩ := t
 have hli := In.cellss_len ins
 simp only [En.ins] at h
 simp only [En.cells, Ty.cells]
 refine Zw Tryz.func17 V (by kernel_rfl) V (Uf V) ?_
 refine Yf (Zg (Zc (Za 3 V V V (Ys (cs' := [_, _, _]) V V V V (Za 5 V V V (Ys (cs' := [_, _, _, _]) V V V V (Za 6 V V V (Ze V V (Vs (Zb (Zg (Zg (Vk 41 (True) Wo V ?_ _ _ V ?_)))))))))))))
 ·skip
  refine Zm 14 V V (Zd V V ⟨V, V⟩) ?_
  refine Wd 15 V V (fun _ q => Yu V V V q) ?_; intro c15 h15
  refine Zm 16 V V (Zd V V ⟨V, V⟩) ?_
  rcases Zi h15 with ⟨rfl, g15⟩ | ⟨rfl, g15⟩
  ·skip
   refine Zu 17 V V V V (Zd V V ⟨V, V⟩) ?_
   refine Zu 18 V V V V (Zj V Vc V V ⟨V, V⟩) ?_
   refine Zu 19 V V V V (Zo V ta_36 V V ⟨V, V⟩) ?_
   refine Zu 20 V V V V (Yy V tu_36 V (.seq _ _) (fun _ => ⟨V, V⟩)) ?_
   refine Xi 21 V V V V (fun _ q => Wa V V V q) ?_; intro c21 h21
   refine Zm 22 V V (Zn V V V ⟨V, V⟩) ?_
   refine Zm 23 V V (Zd V V ⟨V, V⟩) ?_
   rcases Zi h21 with ⟨rfl, g21⟩ | ⟨rfl, g21⟩
   ·omega
   skip
   refine Zf 24 V V V V (Zf 25 V V V V (Zf 26 V V V V (Zm 27 V V (Zn V V V ⟨V, V⟩) ?_)))
   refine Zm 28 V V (Zd V V ⟨V, V⟩) ?_
   refine Zf 29 V V V V (Zf 30 V V V V (Zf 31 V V V V (Zf 32 V V V V (Zf 33 V V V V (Zf 34 V V V V (Zf 35 V V V V (Zf 36 V V V V (Zf 37 V V V V (Zf 38 V V V V (Zf 39 V V V V (Zf 40 V V V V ?_)))))))))))
   refine Zm 41 V V (Zn V V V ⟨V, V⟩) ?_
   show BoolQ _ _ _ _ _ _
   refine Ud V ?_ by5 by3
   simp
  skip
  refine Zf 17 V V V V (Zf 18 V V V V (Zf 19 V V V V (Zf 20 V V V V (Zf 21 V V V V (Zm 22 V V (Zn V V V ⟨V, V⟩) ?_)))))
  refine Zm 23 V V (Zd V V ⟨V, V⟩) ?_
  refine Zf 24 V V V V (Zf 25 V V V V (Zf 26 V V V V (Zm 27 V V (Zn V V V ⟨V, V⟩) ?_)))
  refine Zm 28 V V (Zd V V ⟨V, V⟩) ?_
  refine Zf 29 V V V V (Zf 30 V V V V (Zf 31 V V V V (Zf 32 V V V V (Zf 33 V V V V (Zf 34 V V V V (Zf 35 V V V V (Zf 36 V V V V (Zf 37 V V V V (Zf 38 V V V V (Zf 39 V V V V (Zf 40 V V V V ?_)))))))))))
  refine Zm 41 V V (Zn V V V ⟨V, V⟩) ?_
  show BoolQ _ _ _ _ _ _
  refine Ud V ?_ by5 by3
  simp
 intro c41 h41
 refine Zb ?_
 rcases Zi h41 with ⟨rfl, g41⟩ | ⟨rfl, g41⟩
 ·exact absurd trivial g41
 exact Zt V (Zg (Zc (Za 6 V V V (Ze V V (Vs (Zb (Ya (Yh V V (Le.nil _) (Vu _) ⟨V, V⟩))))))))
theorem Needs_in (v : En) (hv : EnG v) (i : Nat) (y : In) (hy : v.ins[i]? = some y) (t : Ty) (ht : t.size ≤ 1000000) : PCall Tryz.prog 17 [.agg v.cells, .val (.int .i64 i), .agg t.cells] (.seq 5 (Pr.cellss (if t.kind ≠ 3 ∨ t.kids.length ≠ y.hd.kids.length then [] else y.cx.map fun p => Pr.mk p.c (p.t.turn (putO (varsR y) t.kids))))) := by
 obtain ⟨hb1, _, hb3⟩ := hv.b.inss y (Uk hy)
 have hcv := hv.cv y (Uk hy)
 obtain ⟨da, cl, ins⟩ := v
 have hi := Vf hy
 have hcy := In.cellss_get hy
 have hli := In.cellss_len ins
 simp only [En.ins] at hi hcy hy
 obtain ⟨tk, ts, tn, tl⟩ := t
 have hlt := Ty.cellss_len tl
 have hkz : ∀ t ∈ tl, t.size ≤ 1000000 := fun u hu => by have := Ty.size_mem hu; rw [Ty.size] at ht; omega
 obtain ⟨yc, ⟨yk, ys, yn, yl⟩, ycx, ybs, yp⟩ := y
 have hly := Ty.cellss_len yl
 have hlp := Pr.cellss_len ycx
 have hb1 : ycx.length ≤ 100000 := hb1
 have hb3 : yl.length ≤ 200000 := hb3
 have hcv : CtxV ycx := hcv
 simp only [In.cells, Ty.cells, List.cons_append, List.nil_append] at hcy
 obtain ⟨R, hR⟩ : ∃ R, (if tk ≠ 3 ∨ tl.length ≠ yl.length then [] else ycx.map fun p => Pr.mk p.c (p.t.turn (putO (yl.map Ty.name) tl))) = R := ⟨_, rfl⟩
 have hR' : (if (Ty.mk tk ts tn tl).kind ≠ 3 ∨ (Ty.mk tk ts tn tl).kids.length ≠ (In.mk yc (Ty.mk yk ys yn yl) ycx ybs yp).hd.kids.length then [] else (In.mk yc (Ty.mk yk ys yn yl) ycx ybs yp).cx.map fun p => Pr.mk p.c (p.t.turn (putO (varsR (In.mk yc (Ty.mk yk ys yn yl) ycx ybs yp)) (Ty.mk tk ts tn tl).kids))) = R := hR
 rw [hR']
 simp only [En.cells, Ty.cells]
 refine Zw Tryz.func17 V (by kernel_rfl) V (Uf V) ?_
 refine Yf (Zg (Zc (Za 3 V V V (Ys (cs' := [_, _, _]) V V V V (Za 5 V V V (Ys (cs' := [_, _, _, _]) V V V V (Za 6 V V V (Ze V V (Vs (Zb (Zg (Zg (Vk 41 (tk ≠ 3 ∨ tl.length ≠ yl.length) Wo V ?_ _ _ V ?_)))))))))))))
 ·skip
  refine Zm 14 V V (Zd V V ⟨V, V⟩) ?_
  refine Wd 15 V V (fun _ q => Yu V V V q) ?_; intro c15 h15
  refine Zm 16 V V (Zd V V ⟨V, V⟩) ?_
  rcases Zi h15 with ⟨rfl, g15⟩ | ⟨rfl, g15⟩
  ·skip
   refine Zu 17 V V V V (Zd V V ⟨V, V⟩) ?_
   refine Zu 18 V V V V (Zj V Vc V V ⟨V, V⟩) ?_
   refine Zu 19 V V V V (Zo V ta_36 V V ⟨V, V⟩) ?_
   refine Zu 20 V V V V (Yy V tu_36 V (.seq _ _) (fun _ => ⟨V, V⟩)) ?_
   refine Xi 21 V V V V (fun _ q => Wa V V V q) ?_; intro c21 h21
   refine Zm 22 V V (Zn V V V ⟨V, V⟩) ?_
   refine Zm 23 V V (Zd V V ⟨V, V⟩) ?_
   rcases Zi h21 with ⟨rfl, g21⟩ | ⟨rfl, g21⟩
   ·skip
    refine Zu 24 V V V V (Zj V tf_25_0 V V ⟨V, V⟩) ?_
    refine Zu 25 V V V V (Zo V Xa V V ⟨V, V⟩) ?_
    refine Xi 26 V V V V (fun _ q => Xq V V V q) ?_; intro c26 h26
    refine Zm 27 V V (Zn V V V ⟨V, V⟩) ?_
    refine Zm 28 V V (Zd V V ⟨V, V⟩) ?_
    rcases Zi h26 with ⟨rfl, g26⟩ | ⟨rfl, g26⟩
    ·skip
     refine Zu 29 V V V V (Zj V Wc V V ⟨V, V⟩) ?_
     refine Zu 30 V V V V (Zo V Vg V V ⟨V, V⟩) ?_
     refine Zu 31 V V V V (Yy V tu_23 V (.seq _ _) (fun _ => ⟨V, V⟩)) ?_
     refine Zu 32 V V V V (Zj V Vc V V ⟨V, V⟩) ?_
     refine Zu 33 V V V V (Zo V ta_36 V V ⟨V, V⟩) ?_
     refine Zu 34 V V V V (Zd V V ⟨V, V⟩) ?_
     refine Zu 35 V V V V (Yd V te_36 V (.seq _ _) V V (hcy) ⟨V, V⟩) ?_
     refine Zu 36 V V V V (Zj V Vd V V ⟨V, V⟩) ?_
     refine Zu 37 V V V V (Zj V Wc V V ⟨V, V⟩) ?_
     refine Zu 38 V V V V (Zo V Vg V V ⟨V, V⟩) ?_
     refine Zu 39 V V V V (Yy V tu_23 V (.seq _ _) (fun _ => ⟨V, V⟩)) ?_
     refine Xi 40 V V V V (fun _ q => Xq V V V q) ?_; intro c40 h40
     refine Zm 41 V V (Zn V V V ⟨V, V⟩) ?_
     show BoolQ _ _ _ _ _ _
     refine Ud V ?_ by5 by3
     first | (simp_all; done) | (simp_all; omega) | grind
    skip
    refine Zf 29 V V V V (Zf 30 V V V V (Zf 31 V V V V (Zf 32 V V V V (Zf 33 V V V V (Zf 34 V V V V (Zf 35 V V V V (Zf 36 V V V V (Zf 37 V V V V (Zf 38 V V V V (Zf 39 V V V V (Zf 40 V V V V ?_)))))))))))
    refine Zm 41 V V (Zn V V V ⟨V, V⟩) ?_
    show BoolQ _ _ _ _ _ _
    refine Ud V ?_ by5 by3
    first | (simp_all; done) | (simp_all; omega) | grind
   omega
  omega
 intro c41 h41
 refine Zb ?_
 rcases Zi h41 with ⟨rfl, g41⟩ | ⟨rfl, g41⟩
 ·refine Zr V (Zv (Zb (Zg ?_)))
  rw [if_neg g41] at hR
  refine Zc (Za 42 V V V (Zj V Vc V V (Za 43 V V V (Zo V ta_36 V V (Za 44 V V V (Zd V V (Za 45 V V V (Yd V te_36 V (.seq _ _) V V (hcy) (Za 46 V V V (Yc (cs' := [_, _, _, _, _, _, _, _]) V ta_73 V V V (Za 7 V V V (Zy (cs' := [_, _, _, _, _, _, _, _]) V tz_73 V V ?_)))))))))))); intro b7
  refine Zs V V (Zq (cs' := [_, _, _, _, _, _, _, _]) (i := 0) V ts_73 V V V V V (Uf V) V (Vs (Zb (Zg (Zc (Za 8 V V V (Ze V V (Vs (Zb (Zg (Zg (Zc (Za 47 V V V (Zh V Vd V (Za 48 V V V (Zh V Wc V (Za 49 V V V (Zp (i := 0) V Vg V V V ?_))))))))))))))))))
  refine Za 50 V V V (Yy V tu_23 V (.seq _ _) (fun n50 => ?_))
  refine Za 51 V V V (Zd V V (Vs (Zb (Zz (We 9 1 ?_)))))
  apply Wg [0, 1, 2, 3, 4, 8, 9, 10, 12, 14, 15, 16, 17, 18, 19, 20, 21, 22, 23, 24, 25, 26, 27, 28, 29, 30, 31, 32, 33, 34, 35, 36, 37, 38, 39, 40, 41, 42, 43, 44, 45, 46, 47, 48, 51, 52, 53, 54, 55, 56, 57, 58, 59, 60] (σ := Nat × List ByteArray × Value) (fun zz => match zz with | (k, acc, u) => [(8, .own u 1 (strs acc)), (51, .val (.int .i64 k))]) (fun zz => match zz with | (k, acc, u) => [.loc b7 [.val (.string yc), .val (.int .i64 yk), .val (.string ys), .val (.int .i64 yn), .seq 4 (Ty.cellss yl), .seq 5 (Pr.cellss ycx), .seq 13 (Bi.cellss ybs), .val (.int .i64 yp)], .own 9 1 u]) (fun zz => match zz with | (k, acc, u) => k ≤ yl.length ∧ acc = (yl.take k).map Ty.name) (fun zz => match zz with | (k, acc, u) => yl.length - k) ((0, [], .slice none 0 0))
  ·repeat' (first | exact Ui | apply Ug rfl | apply Uh rfl)
  ·exact ⟨Nat.zero_le _, V⟩
  ·exact Uc V (Le.nilOwn 1) (Uc V (Vz _) (SLe.nil _))
  ·exact (Vy V)
  rintro ⟨k, acc, u⟩ hI
  try dsimp only [List.cons_append, List.nil_append] at hI ⊢
  obtain ⟨h1, ha⟩ := hI
  have hle : (strs acc).length ≤ 1000000 := by rw [Xt, ha, List.length_map, List.length_take]; omega
  refine Zg (Zc (Za 52 V V V (Yu V V V ?_))); intro c52 h52
  refine Vs (Zb (Zg ?_))
  rcases Zi h52 with ⟨rfl, g52⟩ | ⟨rfl, g52⟩
  ·refine Zr V (Xc (Xe (Xv (Xd (Zb (Zg ?_))))))
   rw [List.take_of_length_le (by omega)] at ha
   refine Zc (Za 11 V V V (Ze V V (Vs (Zb (Zg (Zg (Zc (Za 61 V V V (Zh V tf_73_2 V (Za 62 V V V (Zp (i := 0) V ta_22 V V V ?_)))))))))))
   refine Za 63 V V V (Yy V tu_22 V (.seq _ _) (fun n63 => ?_))
   refine Za 64 V V V (Zd V V (Vs (Zb (Zz (c_le (al' := [(5, .cptr [.val (.int .i64 tk), .val (.string ts), .val (.int .i64 tn), .seq 4 (Ty.cellss tl)]), (7, .ptr b7 0), (8, .seq 1 (strs acc)), (11, .val (.slice none 0 0)), (62, .seq 5 (Pr.cellss ycx)), (63, .val (.int .i64 (Pr.cellss ycx).length)), (64, .val (.int .i64 0))]) by4 (M' := []) (Vu _) ?_)))))
   refine We 27 5 ?_
   apply Wg [0, 1, 2, 3, 4, 7, 9, 10, 11, 12, 13, 14, 15, 16, 17, 18, 19, 20, 21, 22, 23, 24, 25, 26, 27, 28, 29, 30, 31, 32, 33, 34, 35, 36, 37, 38, 39, 40, 41, 42, 43, 44, 45, 46, 47, 48, 49, 50, 51, 52, 53, 54, 55, 56, 57, 58, 59, 60, 61, 64, 65, 66, 67, 68, 69, 70, 71, 72, 73, 74, 75, 76, 77, 78, 79, 80] (σ := Nat × List Pr × Value) (fun zz => match zz with | (k, out, w) => [(11, .own w 5 (Pr.cellss out)), (64, .val (.int .i64 k))]) (fun zz => match zz with | (k, out, w) => [.own 27 5 w]) (fun zz => match zz with | (k, out, w) => k ≤ ycx.length ∧ out = (ycx.take k).map fun p => Pr.mk p.c (p.t.turn (putO (yl.map Ty.name) tl))) (fun zz => match zz with | (k, out, w) => ycx.length - k) ((0, [], .slice none 0 0))
   ·repeat' (first | exact Ui | apply Ug rfl | apply Uh rfl)
   ·exact ⟨Nat.zero_le _, V⟩
   ·exact Uc V (Le.nilOwn 5) (Uc V (Vz _) (SLe.nil _))
   ·exact (Vy V)
   rintro ⟨k, out, w⟩ hI
   try dsimp only [List.cons_append, List.nil_append] at hI ⊢
   obtain ⟨h2, hb⟩ := hI
   have hle : (Pr.cellss out).length ≤ 1000000 := by rw [Pr.cellss_len, hb, List.length_map, List.length_take]; omega
   refine Zg (Zc (Za 65 V V V (Yu V V V ?_))); intro c65 h65
   refine Vs (Zb (Zg ?_))
   rcases Zi h65 with ⟨rfl, g65⟩ | ⟨rfl, g65⟩
   ·refine Zr V (Xc (Xe (Xv (Xd (Zb (Zg (Zc (Za 81 V V V (Zd V V (Za 6 V V V (Ze V V (Vs (Zb (Ya ?_))))))))))))))
    rw [List.take_of_length_le (by omega)] at hb; rw [← hR]; exact Yh rfl rfl (Le.own_seq (by rw [hb])) (Vu _) ⟨rfl, rfl⟩
   refine Zt V (Zv (Zb (Zg (Zz (Zg ?_)))))
   obtain ⟨q, hq⟩ := Yw (l := ycx) (i := k) (by omega)
   obtain ⟨qc, qs, rfl⟩ := hcv q (Uk hq)
   have hcq := Pr.cellss_get hq
   have hsn := Wl hq
   have HP := Put_c acc tl (Ty.mk 1 qs 0 []) hkz (by simp [Ty.size, Ty.sizes])
   obtain ⟨⟨rk, rs, rn, rl⟩, hr⟩ : ∃ t, (Ty.mk 1 qs 0 []).turn (putO acc tl) = t := ⟨_, rfl⟩
   rw [hr] at HP
   simp only [Pr.cells, Ty.cells] at hcq HP
   refine Zc (Za 66 V V V (Yd V te_22 V (.seq _ _) V V (hcq) (Za 67 V V V (Yc (cs' := [_, _, _, _, _]) V ta_27 V V V (Za 13 V V V (Zy (cs' := [_, _, _, _, _]) V tz_27 V V ?_)))))); intro b13
   refine Zs V V (Zq (cs' := [_, _, _, _, _]) (i := 0) V ts_27 V V V V V (Uf V) V (Vs (Zb (Xu [0, 1, 2, 3, 4, 5, 6, 7, 8, 9, 10, 11, 12] [11] [[], [], [1], [], [], [4], [], [6], [3, 4, 5, 6, 7], [1, 2, 3, 4, 5, 6, 7, 8], [1, 2, 3, 4, 5, 6, 7, 8, 9], [0, 1, 2, 3, 4, 5, 6, 7, 8, 9, 10], [0, 1, 2, 3, 4, 5, 6, 7, 8, 9, 10, 11]] Wo V (Yb 68 (none) (i := 0) V V V V V (Zd V V ⟨V, V⟩) ?_)))))
   refine Yb 69 (none) (i := 1) V V V V V (Zh V Vb V ⟨V, V⟩) ?_
   refine Yb 70 (some 0) (i := 2) V V V V V (Zp (i := 0) V Xb V V V ⟨V, V⟩) ?_
   refine Yb 71 (none) (i := 3) V V V V V (Zd V V ⟨V, V⟩) ?_
   refine Yb 72 (none) (i := 4) V V V V V (Zj V Wc V V ⟨V, V⟩) ?_
   refine Yb 73 (none) (i := 5) V V V V V (Zo V Vg V V ⟨V, V⟩) ?_
   refine Yb 74 (none) (i := 6) V V V V V (Zh V Wk V ⟨V, V⟩) ?_
   refine Yb 75 (some 0) (i := 7) V V V V V (Zx (cs' := [_, _, _, _]) (i := 0) V Xz V V V V ⟨V, V⟩) ?_
   refine Yb 76 (none) (i := 8) V V V V V (Ym (xs := [.tmp 71, .tmp 73, .tmp 75]) V V (HP) by1 ⟨V, V⟩) ?_
   refine Yb 77 (none) (i := 9) V V V V V (Yl (ns := [0, 1]) (xs := [.tmp 70, .tmp 76]) V tz_27 V tfl_27 V V V V ⟨V, V⟩) ?_
   refine Yb 78 (none) (i := 10) V V V V V (Ye (xs := [.tmp 77]) el_22 V V V V V V (Uf V) ⟨V, V⟩) ?_
   refine Xn 1 (i := 11) V V V V V (Xj (i := 0) el_22 V V V V (.seq _ _) by6 (fun u79 => ⟨_, V, ?_⟩))
   refine Yb 11 (none) (i := 12) V V V V V (Ze V V ⟨V, V⟩) ?_
   show AGo _ _ _ _ _ _ _
   refine Yt (Zb (Zc (Za 80 V V V (Yx V V V (Uj _ (by omega)) ?_))))
   refine Za 64 V V V (Zd V V (Vs (Yz ?_)))
   exact ⟨(k + 1, out ++ [Pr.mk qc (Ty.mk rk rs rn rl)], u79), ⟨by show k + 1 ≤ ycx.length; omega, by rw [hsn, List.map_append, hb, ← hr, ← ha]; rfl⟩, by show ycx.length - (k + 1) < ycx.length - k; omega, Uc V (Ue (by simp [Pr.cellss]; rfl)) by4, (Vw _ (Vy V))⟩
  refine Zt V (Zv (Zb (Zg (Zz (Zg ?_)))))
  obtain ⟨⟨zk, zs, zn, zl⟩, hz⟩ := Yw (l := yl) (i := k) (by omega)
  have hcz := Ty.cellss_get hz
  have hsn := Wl hz
  simp only [Ty.cells] at hcz
  refine Zc (Za 53 V V V (Yd V te_23 V (.seq _ _) V V (hcz) (Za 54 V V V (Yc (cs' := [_, _, _, _]) V Xz V V V (Za 10 V V V (Zy (cs' := [_, _, _, _]) V tz_25 V V ?_)))))); intro b10
  refine Zs V V (Zq (cs' := [_, _, _, _]) (i := 0) V ts_25 V V V V V (Uf V) V (Vs (Zb (Zc (Za 55 V V V (Zd V V (Za 56 V V V (Zh V Wp V (Za 57 V V V (Zp (i := 0) V Xb V V V (Za 58 V V V (Ye (xs := [.tmp 57]) el_68 V V V V V V (Uf V) (Za 59 V V V (Xj (i := 2) el_68 V V V V (.seq _ _) by6 ?_))))))))))))))
  intro u59
  refine Za 8 V V V (Ze V V (Vs (Yt (Zb (Zc (Za 60 V V V (Yx V V V (Uj _ (by omega)) ?_)))))))
  refine Za 51 V V V (Zd V V (Vs (Yz ?_)))
  exact ⟨(k + 1, acc ++ [zs], u59), ⟨by show k + 1 ≤ yl.length; omega, by rw [hsn, List.map_append, ha]; rfl⟩, by show yl.length - (k + 1) < yl.length - k; omega, Uc V (Ue (by rw [strs_app]; rfl)) by4, (Vw _ (Vy V))⟩
 refine Zt V (Zg (Zc (Za 6 V V V (Ze V V (Vs (Zb (Ya ?_)))))))
 rw [if_pos g41] at hR; subst hR; exact Yh rfl rfl (Le.nil _) (Vu _) ⟨rfl, rfl⟩
end Go.Proofs.YtknodnfbaofngaaGreat
namespace Go.Proofs.YtknodnfbaofngaaGreat
theorem progT_b (s : ByteArray) : PgB 70000 (progT s).1 := by
 have hL := scanT_len s
 unfold progT
 dsimp only
 split
 ·exact pg0_b.up (by omega)
 have k0 : POk (scanT s).1 302 (beginP (scanT s)) := by
  unfold beginP
  split
  ·unfold failP POk; simp
  unfold POk; simp
 exact (progL_b hL ((scanT s).1.length + 1) 0 _ pg0 k0 pg0_b).up (by omega)
theorem progT_g (s : ByteArray) : EnG (envOf (progT s).1) ∧ (progT s).1.bs.length ≤ 1000000 := by
 have h := progT_b s
 generalize (progT s).1 = x at h
 obtain ⟨da, cl, ins, bs⟩ := x
 obtain ⟨h1, h2, h3, h4, h5, h6, h7⟩ := h
 simp only [Pg.da, Pg.cl, Pg.ins, Pg.bs] at h1 h2 h3 h4 h5 h6 h7
 refine ⟨⟨⟨?_, h5, ?_, h6, ?_, fun x hx => (h7 x hx).1⟩, fun x hx => (h7 x hx).2⟩, ?_⟩
 ·show da.length ≤ 100000; omega
 ·show cl.length ≤ 100000; omega
 ·show ins.length ≤ 100000; omega
 show bs.length ≤ 1000000; omega
structure EnC (v : En) : Prop where
 g : EnG v
 un : ∀ (i : Nat) (x : In), v.ins[i]? = some x → instI v x.c x.hd.name = i
 var : ∀ x ∈ v.ins, ∀ p ∈ x.cx, p.t.name ∈ varsR x
 acy : ∀ c ∈ v.cl, ¬ c.s ∈ aboveR v c.s
theorem insts1_all (v : En) : ∀ (l : List In) (i : Nat), (insts1 v i l).1 = 0 → ∀ (k : Nat) (x : In), l[k]? = some x → (instR v (i + k) x).1 = 0
 | [], i, _, k, x, h => by simp at h
 | y :: l, i, h0, k, x, h => by
  rw [insts1] at h0
  by_cases hy : (instR v i y).1 ≠ 0
  ·rw [if_pos hy] at h0; exact absurd h0 hy
  rw [if_neg hy] at h0
  cases k with
  | zero => simp at h; subst h; simpa using hy
  | succ k =>
   have := insts1_all v l (i + 1) h0 k x (by simpa using h)
   rw [show i + (k + 1) = i + 1 + k by omega]; exact this
theorem ctxL0_all (v : En) (ns : List ByteArray) : ∀ (l pre : List Pr), ctxL0 v ns pre l = 0 → ∀ p ∈ l, p.t.name ∈ ns
 | [], pre, _, p, hp => by simp at hp
 | y :: l, pre, h, p, hp => by
  rw [ctxL0] at h
  split at h
  ·simp at h
  split at h
  ·simp at h
  rename_i _ hq
  split at h
  ·simp at h
  rcases List.mem_cons.1 hp with rfl | hp
  ·apply hasB_iff.1
   cases hh : hasB ns p.t.name with
   | true => rfl
   | false => exact absurd (Or.inr hh) hq
  exact ctxL0_all v ns l _ h p hp
theorem instR_zero {v : En} {i : Nat} {x : In} (h : (instR v i x).1 = 0) : ¬ instI v x.c x.hd.name < i ∧ ctxR v x = 0 := by
 unfold instR at h
 split at h
 ·simp at h
 rename_i hc
 cases hq : v.cl[(classI v x.c).toNat]? with
 | none =>
  obtain ⟨y, h1, _⟩ := Vq (fun (c : Cl) => sameB c.s x.c) v.cl 0 (by unfold classI at hc; omega)
  unfold classI at hq
  simp at h1
  rw [hq] at h1; cases h1
 | some c =>
  rw [hq] at h
  simp only [] at h
  unfold instR1 at h
  split at h
  ·rename_i h1; exact absurd h h1
  split at h
  ·simp at h
  rename_i h2
  split at h
  ·rename_i h3; exact absurd h h3
  rename_i h3
  exact ⟨h2, by omega⟩
theorem findI_min {α : Type} (p : α → Bool) : ∀ (l : List α) (i k : Nat) (x : α), l[k]? = some x → p x = true → findI p l i ≤ i + k ∧ 0 ≤ findI p l i
 | [], i, k, x, h, _ => by simp at h
 | y :: l, i, k, x, h, hp => by
  rw [findI]
  split
  ·omega
  rename_i hy
  cases k with
  | zero => simp at h; subst h; exact absurd hp hy
  | succ k =>
   have := findI_min p l (i + 1) k x (by simpa using h) hp
   omega
theorem classes3_all (v : En) : ∀ l : List Cl, (classes3 v l).1 = 0 → ∀ c ∈ l, ¬ c.s ∈ aboveR v c.s
 | [], _, c, hc => by simp at hc
 | y :: l, h, c, hc => by
  rw [classes3] at h
  split at h
  ·simp at h
  rename_i hy
  rcases List.mem_cons.1 hc with rfl | hc
  ·exact fun q => hy (hasB_iff.2 q)
  exact classes3_all v l h c hc
theorem check_c {p : Pg} (hg : EnG (envOf p)) (h : (checkR p).1 = 0) : EnC (envOf p) := by
 unfold checkR at h
 dsimp only at h
 split at h
 ·rename_i q; exact absurd h q
 split at h
 ·rename_i q; exact absurd h q
 split at h
 ·rename_i q; exact absurd h q
 rename_i hcl hin
 have hcl : (classesR (envOf p)).1 = 0 := by omega
 have hin : (insts1 (envOf p) 0 (envOf p).ins).1 = 0 := by omega
 have hall : ∀ (i : Nat) (x : In), (envOf p).ins[i]? = some x → (instR (envOf p) i x).1 = 0 := fun i x hx => by
  have := insts1_all _ _ 0 hin i x hx
  simpa using this
 refine ⟨hg, fun i x hx => ?_, fun x hx q hq => ?_, ?_⟩
 ·have h1 := (instR_zero (hall i x hx)).1
  have h2 := findI_min (fun (y : In) => sameB y.c x.c && sameB y.hd.name x.hd.name) (envOf p).ins 0 i x hx (by simp [sameB])
  unfold instI at h1 ⊢
  omega
 ·obtain ⟨i, hi⟩ := List.mem_iff_getElem?.1 hx
  exact ctxL0_all _ _ _ _ (instR_zero (hall i x hi)).2 q hq
 unfold classesR at hcl
 split at hcl
 ·rename_i q; exact absurd hcl q
 split at hcl
 ·rename_i q; exact absurd hcl q
 split at hcl
 ·rename_i q; exact absurd hcl q
 rename_i q
 exact classes3_all _ _ (by omega)
def Edge (v : En) (c s : ByteArray) : Prop := 0 ≤ classI v c ∧ s ∈ supersOf v c
inductive Up (v : En) : ByteArray → ByteArray → Prop
 | one {c s : ByteArray} (h : Edge v c s) : Up v c s
 | step {c s x : ByteArray} (h : Edge v c s) (k : Up v s x) : Up v c x
theorem Up.trans {v : En} {a b c : ByteArray} (h : Up v a b) (k : Up v b c) : Up v a c := by
 induction h with
 | one h => exact .step h k
 | step h _ ih => exact .step h (ih k)
theorem overL_sound {O : ByteArray → List ByteArray → List ByteArray} {G : ByteArray → Prop} (HO : ∀ s met, G s → ∀ x ∈ O s met, x ∈ met ∨ G x) : ∀ (ss met : List ByteArray), (∀ s ∈ ss, G s) → ∀ x ∈ overL O ss met, x ∈ met ∨ G x
 | [], met, _, x, hx => .inl hx
 | s :: ss, met, h, x, hx => by
  unfold overL at hx
  by_cases hm : hasB met s = true
  ·rw [if_pos hm] at hx; exact overL_sound HO ss met (fun y hy => h y (by simp [hy])) x hx
  rw [if_neg hm] at hx
  rcases overL_sound HO ss _ (fun y hy => h y (by simp [hy])) x hx with q | q
  ·rcases HO s _ (h s (by simp)) x q with q | q
   ·rcases List.mem_append.1 q with q | q
    ·exact .inl q
    rw [List.mem_singleton.1 q]; exact .inr (h s (by simp))
   exact .inr q
  exact .inr q
theorem overF_sound (v : En) : ∀ (n : Nat) (c : ByteArray) (met : List ByteArray), ∀ x ∈ overF v n c met, x ∈ met ∨ Up v c x
 | 0, c, met, x, hx => .inl hx
 | n + 1, c, met, x, hx => by
  unfold overF at hx
  split at hx
  ·exact .inl hx
  rename_i hc
  exact overL_sound (G := fun x => Up v c x) (fun s met' hs x hx => by
   rcases overF_sound v n s met' x hx with q | q
   ·exact .inl q
   exact .inr (hs.trans q)) (supersOf v c) met (fun s hs => .one ⟨by omega, hs⟩) x hx
theorem overL_closed {v : En} {n : Nat} {O : ByteArray → List ByteArray → List ByteArray} (HG : ∀ s met, Grow (allSup v) met (O s met)) (HO : ∀ s met, lack (allSup v) met < n → (∀ y, Edge v s y → y ∈ O s met) ∧ (∀ y ∈ O s met, y ∉ met → ∀ z, Edge v y z → z ∈ O s met)) : ∀ (ss met : List ByteArray), (∀ s ∈ ss, s ∈ allSup v) → lack (allSup v) met ≤ n → (∀ y ∈ ss, y ∈ overL O ss met) ∧ (∀ y ∈ overL O ss met, y ∉ met → ∀ z, Edge v y z → z ∈ overL O ss met)
 | [], met, _, _ => ⟨by simp, fun y hy h => absurd hy h⟩
 | s :: ss, met, h, hl => by
  have hG := overL_grow HG ss
  unfold overL
  by_cases hm : hasB met s = true
  ·rw [if_pos hm]
   obtain ⟨h1, h2⟩ := overL_closed HG HO ss met (fun y hy => h y (by simp [hy])) hl
   refine ⟨fun y hy => ?_, h2⟩
   rcases List.mem_cons.1 hy with rfl | hy
   ·exact (hG met (fun y hy => h y (by simp [hy]))).2.2 _ (hasB_iff.1 hm)
   exact h1 y hy
  rw [if_neg hm]
  have hs := h s (by simp)
  have hlt := lack_lt hs hm
  have g1 := HG s (met ++ [s])
  have g2 := hG (O s (met ++ [s])) (fun y hy => h y (by simp [hy]))
  obtain ⟨k1, k2⟩ := HO s (met ++ [s]) (by omega)
  obtain ⟨h1, h2⟩ := overL_closed HG HO ss (O s (met ++ [s])) (fun y hy => h y (by simp [hy])) (by have := g1.2.1; omega)
  refine ⟨fun y hy => ?_, fun y hy hn z hz => ?_⟩
  ·rcases List.mem_cons.1 hy with rfl | hy
   ·exact g2.2.2 _ (g1.2.2 _ (by simp))
   exact h1 y hy
  by_cases hy1 : y ∈ O s (met ++ [s])
  ·by_cases e : y = s
   ·subst e; exact g2.2.2 _ (k1 z hz)
   exact g2.2.2 _ (k2 y hy1 (by simp [hn, e]) z hz)
  exact h2 y hy hy1 z hz
theorem overF_closed (v : En) : ∀ (n : Nat) (c : ByteArray) (met : List ByteArray), lack (allSup v) met < n → (∀ y, Edge v c y → y ∈ overF v n c met) ∧ (∀ y ∈ overF v n c met, y ∉ met → ∀ z, Edge v y z → z ∈ overF v n c met)
 | 0, c, met, h => by omega
 | n + 1, c, met, h => by
  unfold overF
  split
  ·rename_i hc
   exact ⟨fun y hy => absurd hy.1 (by omega), fun y hy hn => absurd hy hn⟩
  obtain ⟨h1, h2⟩ := overL_closed (n := n) (overF_grow v n) (fun s met hs => overF_closed v n s met hs) (supersOf v c) met (supersOf_sub v c) (by omega)
  exact ⟨fun y hy => h1 y hy.2, h2⟩
theorem above_iff (v : En) (c x : ByteArray) : x ∈ aboveR v c ↔ Up v c x := by
 constructor
 ·intro h
  rcases overF_sound v _ c [] x h with q | q
  ·simp at q
  exact q
 intro h
 obtain ⟨h1, h2⟩ := overF_closed v ((allSup v).length + 1) c [] (by rw [lack_nil]; omega)
 have h1 : ∀ y, Edge v c y → y ∈ aboveR v c := h1
 have h2 : ∀ y ∈ aboveR v c, ∀ z, Edge v y z → z ∈ aboveR v c := fun y hy => h2 y hy (by simp)
 have key : ∀ {a b : ByteArray}, Up v a b → (a = c ∨ a ∈ aboveR v c) → b ∈ aboveR v c := by
  intro a b k
  induction k with
  | one e =>
   rintro (rfl | q)
   ·exact h1 _ e
   exact h2 _ q _ e
  | step e _ ih =>
   rintro (rfl | q)
   ·exact ih (.inr (h1 _ e))
   exact ih (.inr (h2 _ q _ e))
 exact key h (.inl V)
theorem EnC.no_circle {v : En} (hv : EnC v) (c : ByteArray) : ¬ Up v c c := by
 intro h
 have h0 : 0 ≤ classI v c := by cases h with | one e => exact e.1 | step e _ => exact e.1
 obtain ⟨y, h1, h2, _⟩ := Vq (fun (x : Cl) => sameB x.s c) v.cl 0 h0
 have := hv.acy y (Uk h1)
 rw [Wt.1 h2] at this
 exact this ((above_iff v c c).2 h)
def high (v : En) (c : ByteArray) : Nat := ((allSup v).filter fun s => hasB (aboveR v c) s).length
theorem filter_lt {α : Type} {p q : α → Bool} {l : List α} (h : ∀ x, p x = true → q x = true) {x : α} (hx : x ∈ l) (h1 : p x = false) (h2 : q x = true) : (l.filter p).length < (l.filter q).length := by
 induction l with
 | nil => simp at hx
 | cons y l ih =>
  have hle : ∀ l : List α, (l.filter p).length ≤ (l.filter q).length := by
   intro l
   induction l with
   | nil => simp
   | cons z l ih =>
    simp only [List.filter_cons]
    cases hp : p z with
    | true => simp [h z hp]; exact ih
    | false => cases hq : q z <;> simp <;> omega
  have := hle l
  simp only [List.filter_cons]
  rcases List.mem_cons.1 hx with rfl | hx
  ·simp [h1, h2]; omega
  have := ih hx
  cases hp : p y with
  | true => simp [h y hp]; omega
  | false => cases hq : q y <;> simp <;> omega
theorem EnC.high_lt {v : En} (hv : EnC v) {c s : ByteArray} (h : Edge v c s) : high v s < high v c := by
 refine filter_lt (fun x hx => ?_) (x := s) (supersOf_sub v c s h.2) ?_ ?_
 ·exact hasB_iff.2 ((above_iff v c x).2 (.step h ((above_iff v s x).1 (hasB_iff.1 hx))))
 ·cases q : hasB (aboveR v s) s with
  | false => rfl
  | true => exact absurd ((above_iff v s s).1 (hasB_iff.1 q)) (hv.no_circle s)
 exact hasB_iff.2 ((above_iff v c s).2 (.one h))
theorem up_next {v : En} {c x : ByteArray} (h : Up v c x) : 0 ≤ classI v c ∧ ∃ s ∈ supersOf v c, s = x ∨ x ∈ aboveR v s := by
 cases h with
 | one e => exact ⟨e.1, x, e.2, .inl rfl⟩
 | step e k => exact ⟨e.1, _, e.2, .inr ((above_iff v _ x).2 k)⟩
open Go.RowKit
end Go.Proofs.YtknodnfbaofngaaGreat
