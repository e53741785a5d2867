/- Parts of a proof: All of the document; both Alls are one; the examples' source, as tokens; the examples' source, parsed; the examples' declarations are right; operations that are guarded, in a drawn region that writes; the document's parser: next, is; the document's parser: fail, take, may, deeper; the document's parser: name, uppers, starts; the document's parser: atype, Type; the document's parser: apat, pat; fix.Level; cognateref04.Level; the document's operators: Level, Side, Clash; the document's parser: Build; the document's parser: bind, lambda; the document's parser: atom; the document's parser: atom, in brackets; the document's parser: operand; the document's parser: Exp -/
import Derived.Test.YtknodnfbaofngaaGreatKLNAll6
set_option maxRecDepth 100000
set_option maxHeartbeats 4000000
namespace Go.Proofs.YtknodnfbaofngaaGreat
open Go.RowKit
theorem pf_more {u : Value} {out : List Pf} {x : Pf} {cs : List AV} (h : Les cs x.cells) (hl : cs.length = x.cells.length) : Le (.own u 4 (Pf.cellss out ++ [cs])) (.own u 4 (Pf.cellss (out ++ [x]))) := by
 rw [Pf.cellss_app']
 exact ownLess (lessApp (Less.refl _) (.cons h hl .nil))
def insJ (fb : Bool) (ii : Int) (R : List (List Pf)) (i : Nat) : List Pf := if fb = true ∧ (i : Int) ≤ ii then R.map fun r => Pf.mk 3 ii kE r else []
def cntJ (fb : Bool) (ii : Int) (i : Nat) : Nat := if fb = true ∧ ii < (i : Int) then 1000 else 0
theorem insJ_zero {fb : Bool} {ii : Int} {R : List (List Pf)} (h : fb = true → 0 ≤ ii) : insJ fb ii R 0 = if fb = true then R.map fun r => Pf.mk 3 ii kE r else [] := by
 unfold insJ
 cases fb with
 | false => simp
 | true => rw [if_pos ⟨rfl, h rfl⟩, if_pos rfl]
theorem insJ_hit {fb : Bool} {i : Nat} {R : List (List Pf)} (h : fb = true) : insJ fb i R i = R.map fun r => Pf.mk 3 i kE r := if_pos ⟨h, Int.le_refl _⟩
theorem insJ_past {fb : Bool} {ii : Int} {i : Nat} {R : List (List Pf)} (h : fb = true → ii < i) : insJ fb ii R i = [] := if_neg fun q => by have := h q.1; omega
theorem insJ_step {fb : Bool} {ii : Int} {i : Nat} {R : List (List Pf)} (h : ¬ (fb = true ∧ ii = i)) : insJ fb ii R (i + 1) = insJ fb ii R i := by
 by_cases q : fb = true ∧ (i : Int) ≤ ii
 ·unfold insJ
  rw [if_pos q, if_pos ⟨q.1, by have : ¬ ii = i := fun e => h ⟨q.1, e⟩; omega⟩]
 ·unfold insJ
  rw [if_neg q, if_neg fun k => q ⟨k.1, by omega⟩]
theorem cntJ_step {fb : Bool} {ii : Int} {i : Nat} (h : ¬ (fb = true ∧ ii = i)) : cntJ fb ii (i + 1) = cntJ fb ii i := by
 unfold cntJ
 by_cases q : fb = true ∧ ii < (i : Int)
 ·rw [if_pos q, if_pos ⟨q.1, by omega⟩]
 ·rw [if_neg q, if_neg fun k => q ⟨k.1, by have : ¬ ii = i := fun e => h ⟨k.1, e⟩; omega⟩]
theorem cntJ_hit {fb : Bool} {i : Nat} : cntJ fb i i = 0 := if_neg (by omega)
theorem cntJ_past {fb : Bool} {i : Nat} (h : fb = true) : cntJ fb i (i + 1) = 1000 := if_pos ⟨h, by omega⟩
theorem cntJ_le (fb : Bool) (ii : Int) (i : Nat) : cntJ fb ii i ≤ 1000 := by unfold cntJ; split <;> omega
theorem rAll_none (v : En) (gs : List Pr) (p : Pr) (dv mv : Int) (h : dv < 1 ∨ mv < 1) : PCall Tryz.prog 21 [.agg v.cells, .seq 5 (Pr.cellss gs), .agg p.cells, .val (.int .i64 dv), .val (.int .i64 mv)] (.seq 4 (Pf.cellss [])) := by
 obtain ⟨pc, ⟨pk, ps, pn, pl⟩⟩ := p
 obtain ⟨da, cl, ins⟩ := v
 simp only [En.cells, Pr.cells, Ty.cells, Pf.cellss]
 refine Zu Tryz.func21 V (by kernel_rfl) V (Ud V) ?_
 refine Yf (Zf (Zc (Za 5 V V V (Xb (cs' := [_, _, _]) V V V V (Za 7 V V V (Xb (cs' := [_, _, _, _, _]) V V V V (Za 10 V V V (Ze V V (Vq (Zb (Zf (Zf (Xj 25 (dv < 1 ∨ mv < 1) ?_ _ _ V ?_)))))))))))))
 ·skip
  refine Za 20 V V V (Zd V V (Za 21 V V V (Yq V V V ?_))); intro c21 h21
  refine Za 22 V V V (Zd V V ?_)
  rcases Zh h21 with ⟨rfl, g21⟩ | ⟨rfl, g21⟩
  ·skip
   refine Zk 23 V V V V V (Zd V V (Zk 24 V V V V V (Yq V V V ?_))); intro c24 h24
   refine Za 25 V V V (Zo V V V (Vq (Ub V ?_ by5 by3)))
   simp_all; done
  ·skip
   refine Zi 23 V V V V V (Zi 24 V V V V V (Za 25 V V V (Zo V V V (Vq (Ub V ?_ by5 by3)))))
   simp_all; done
 intro c25 h25
 refine Zb ?_
 rcases Zh h25 with ⟨rfl, g25⟩ | ⟨rfl, g25⟩
 ·exact absurd h g25
 ·exact Zr V (Zf (Zc (Za 10 V V V (Ze V V (Vq (Zb (Ya (Yg V V (Le.nil 4) (Vs _) ⟨V, V⟩))))))))
theorem rAll_some (v : En) (hv : EnC v) (hc12 : v.cl.length ≤ 12) (gs : List Pr) (hgb : gs.length ≤ 100000) (p : Pr) (dv mv : Int) (hd : 1 ≤ dv) (hd2 : dv ≤ 1000000) (m : Nat) (hm : min mv 1000 = m) (hm1 : 1 ≤ m) (W : Pr → List Pf) (hW : ∀ q, (W q).length ≤ m)
    (HA : ∀ q, q.t.size ≤ p.t.size → PCall Tryz.prog 21 [.agg v.cells, .seq 5 (Pr.cellss gs), .agg q.cells, .val (.int .i64 (dv - 1)), .val (.int .i64 m)] (.seq 4 (Pf.cellss (W q)))) :
    PCall Tryz.prog 21 [.agg v.cells, .seq 5 (Pr.cellss gs), .agg p.cells, .val (.int .i64 dv), .val (.int .i64 mv)] (.seq 4 (Pf.cellss ((givsF p gs 0 ++ ((if fitsR v p = true then (rowsM W m (needsR v (instI v p.c p.t.name) p.t) [[]]).map fun r => Pf.mk 3 (instI v p.c p.t.name) kE r else []) ++ clsF W p v.cl)).take m))) := by
 have HG := fun g => rSame_c g p
 have HF := fun y => rFits_c y p
 have HE := fun (i : Nat) (y : In) (hy : v.ins[i]? = some y) => fits_iff hv (p := p) hy
 have HN := fun (i : Nat) => rNeeds_c v hv.g i p.t
 have hfi : fitsR v p = true → 0 ≤ instI v p.c p.t.name ∧ instI v p.c p.t.name < v.ins.length := fun q => by
  unfold fitsR at q
  have h0 := (of_decide_eq_true q).1
  obtain ⟨z, hz, _⟩ := instI_hit h0
  have := get_lt hz
  omega
 have hlb := needsR_len hv.g.b (instI v p.c p.t.name) p.t
 have HR := rrows_c v gs (needsR v (instI v p.c p.t.name) p.t) hlb (dv - 1) m hm1 (by omega) W hW (fun q hq => HA q (by have := hv.needs_size hq; omega))
 have hRm := rowsM_le (W := W) (m := m) (needsR v (instI v p.c p.t.name) p.t) [[]] (by simpa using hm1)
 have HC := fun c : ByteArray => HA (.mk c p.t) (Nat.le_refl _)
 have HN : ∀ i : Nat, instI v p.c p.t.name = i → PCall Tryz.prog 18 [.agg v.cells, .val (.int .i64 i), .agg p.t.cells] (.seq 5 (Pr.cellss (needsR v (instI v p.c p.t.name) p.t))) := fun i hi => by rw [hi]; exact HN i
 obtain ⟨T, hT⟩ : ∃ T, givsF p gs 0 ++ ((if fitsR v p = true then (rowsM W m (needsR v (instI v p.c p.t.name) p.t) [[]]).map fun r => Pf.mk 3 (instI v p.c p.t.name) kE r else []) ++ clsF W p v.cl) = T := ⟨_, rfl⟩
 rw [hT]
 generalize needsR v (instI v p.c p.t.name) p.t = l at *
 generalize rowsM W m l [[]] = R at *
 generalize fitsR v p = fb at *
 generalize instI v p.c p.t.name = ii at *
 have hsub : ∀ c ∈ v.cl, c.su.length ≤ 100000 := fun c hc => (hv.g.b.cls c hc).1
 clear HA hv
 obtain ⟨pc, ⟨pk, ps, pn, pl⟩⟩ := p
 obtain ⟨da, cl, ins⟩ := v
 have hgl := Pr.cellss_len gs
 have hcl := Cl.cellss_len cl
 have hil := In.cellss_len ins
 have hrm : (R.map rowA).length = R.length := List.length_map _
 simp only [En.cells, Pr.cells, Ty.cells, Pr.t, Pr.c, En.ins, En.cl] at *
 refine Zu Tryz.func21 V (by kernel_rfl) V (Ud V) ?_
 refine Yf (Zf (Zc (Za 5 V V V (Xb (cs' := [_, _, _]) V V V V (Za 7 V V V (Xb (cs' := [_, _, _, _, _]) V V V V (Za 10 V V V (Ze V V (Vq (Zb (Zf (Zf (Xj 25 (dv < 1 ∨ mv < 1) ?_ _ _ V ?_)))))))))))))
 ·skip
  refine Za 20 V V V (Zd V V (Za 21 V V V (Yq V V V ?_))); intro c21 h21
  refine Za 22 V V V (Zd V V ?_)
  rcases Zh h21 with ⟨rfl, g21⟩ | ⟨rfl, g21⟩
  ·skip
   refine Zk 23 V V V V V (Zd V V (Zk 24 V V V V V (Yq V V V ?_))); intro c24 h24
   refine Za 25 V V V (Zo V V V (Vq (Ub V ?_ by5 by3)))
   simp_all; omega
  ·skip
   refine Zi 23 V V V V V (Zi 24 V V V V V (Za 25 V V V (Zo V V V (Vq (Ub V ?_ by5 by3)))))
   simp_all; done
 intro c25 h25
 refine Zb ?_
 rcases Zh h25 with ⟨rfl, g25⟩ | ⟨rfl, g25⟩
 ·refine Zn V (Zt (Zb (Zf (Zf (Zc (Za 26 V V V (Zd V V (Za 27 V V V (Wv V V V ?_))))))))); intro c27 h27
  refine Vq (Zb ?_)
  apply c_joinkm [0, 2, 4, 6, 8, 9, 20, 21, 22, 23, 24, 25, 26, 27] (σ := Unit) (fun zz => match zz with | _x => [(4, .val (.int .i64 m))]) (fun zz => match zz with | _x => True)
  ·repeat' (first | exact Ug | apply Ue rfl | apply Uf rfl)
  ·skip
   rcases Zh h27 with ⟨rfl, g27⟩ | ⟨rfl, g27⟩
   ·refine Zn V (Zt (Yv ?_))
    exact ⟨(), trivial, Ua V (leInt (by omega)) by4, (Vr _)⟩
   ·refine Zr V (Zc (Za 4 V V V (Ze V V (Vq (Yv ?_)))))
    exact ⟨(), trivial, Ua V (leInt (by omega)) by4, (Vr _)⟩
  rintro _x hI
  try dsimp only [List.cons_append, List.nil_append] at hI ⊢
  refine Zb (Zf (Zc (Za 11 V V V (Ze V V (Vq (Zb (Zf (Zf (Zc (Za 12 V V V (Ze V V (Vq (Zb (Zw (Xx 30 4 ?_)))))))))))))))
  apply Xp [0, 2, 6, 8, 9, 11, 12, 20, 21, 22, 23, 24, 25, 26, 27, 28, 29, 30, 31, 32, 33, 34, 35, 36, 37, 38, 39, 40, 41, 42, 43, 44] (σ := Nat × List Pf × Value) (fun zz => match zz with | (i, out, u) => [(11, .own u 4 (Pf.cellss out)), (12, .val (.int .i64 i))]) (fun zz => match zz with | (i, out, u) => [.own 30 4 u]) (fun zz => match zz with | (i, out, u) => i ≤ gs.length ∧ out.length ≤ i ∧ out ++ (givsF (.mk pc ⟨pk, ps, pn, pl⟩) (gs.drop i) i ++ ((if fb = true then R.map fun r => Pf.mk 3 ii kE r else []) ++ clsF W (.mk pc ⟨pk, ps, pn, pl⟩) cl)) = T) (fun zz => match zz with | (i, out, u) => gs.length - i) ((0, [], .slice none 0 0))
  ·repeat' (first | exact Ug | apply Ue rfl | apply Uf rfl)
  ·exact ⟨Nat.zero_le _, Nat.zero_le _, hT⟩
  ·exact Ua V (Le.nilOwn 4) (Ua V (Vx _) (SLe.nil _))
  ·exact (Vw V)
  rintro ⟨i, out, u⟩ hI
  try dsimp only [List.cons_append, List.nil_append] at hI ⊢
  obtain ⟨hi, ho, hD⟩ := hI
  have hol := Pf.cellss_len out
  refine Zf (Zf (Zc (Za 28 V V V (Zd V V (Za 29 V V V (Zd V V ?_))))))
  refine Za 30 V V V (Yx V tu_22 V (.seq _ _) (fun n30 => ?_))
  refine Za 31 V V V (Yq V V V ?_); intro c31 h31
  refine Vq (Zb ?_)
  rcases Zh h31 with ⟨rfl, g31⟩ | ⟨rfl, g31⟩
  ·refine Zn V (Yy (Xa (Xs (Yz (Zb (Zf (Zf ?_)))))))
   rw [Uj (by omega), givsF, List.nil_append] at hD
   rw [← insJ_zero (fun q => (hfi q).1)] at hD
   have ho : out.length ≤ 100000 := by omega
   refine Zc (Za 13 V V V (Ze V V (Vq (Zb (Zw ?_)))))
   apply Xp [0, 2, 6, 8, 9, 11, 12, 13, 14, 15, 20, 21, 22, 23, 24, 25, 26, 27, 28, 29, 30, 31, 32, 33, 34, 35, 36, 37, 38, 39, 40, 41, 42, 43, 44, 45, 46, 47, 48, 49, 50, 51, 52, 53, 54, 55, 56, 57, 58, 59, 60, 61, 62, 63, 64, 65, 66, 67, 68, 69, 70, 71, 72, 73, 74, 75, 76, 77, 78, 79, 80, 81, 82, 83, 84] (σ := Nat × List Pf × Value) (fun zz => match zz with | (i, out, u) => [(11, .own u 4 (Pf.cellss out)), (13, .val (.int .i64 i))]) (fun zz => match zz with | (i, out, u) => [.own 30 4 u]) (fun zz => match zz with | (i, out, u) => i ≤ ins.length ∧ out.length ≤ 100000 + cntJ fb ii i ∧ out ++ (insJ fb ii R i ++ clsF W (.mk pc ⟨pk, ps, pn, pl⟩) cl) = T) (fun zz => match zz with | (i, out, u) => ins.length - i) ((0, out, u))
   ·repeat' (first | exact Ug | apply Ue rfl | apply Uf rfl)
   ·exact ⟨Nat.zero_le _, by omega, hD⟩
   ·exact by4
   ·exact by3
   rintro ⟨i, out, u⟩ hI
   try dsimp only [List.cons_append, List.nil_append] at hI ⊢
   obtain ⟨hi, ho, hD⟩ := hI
   refine Zf (Zf (Zc (Za 45 V V V (Zd V V (Za 46 V V V (Zj V Vi V V (Za 47 V V V (Zp V ta_36 V V ?_))))))))
   refine Za 48 V V V (Yx V tu_36 V (.seq _ _) (fun n48 => ?_))
   refine Za 49 V V V (Yq V V V ?_); intro c49 h49
   refine Vq (Zb ?_)
   rcases Zh h49 with ⟨rfl, g49⟩ | ⟨rfl, g49⟩
   ·refine Zn V (Yy (Xa (Xs (Yz (Zb (Zf (Zf ?_)))))))
    rw [insJ_past (fun q => by have := (hfi q).2; omega), List.nil_append] at hD
    have ho : out.length ≤ 101000 := by have := cntJ_le fb ii i; omega
    refine Zc (Za 16 V V V (Ze V V (Vq (Zb (Zw ?_)))))
    apply Xp [0, 2, 6, 8, 9, 11, 12, 13, 14, 15, 16, 17, 18, 19, 20, 21, 22, 23, 24, 25, 26, 27, 28, 29, 30, 31, 32, 33, 34, 35, 36, 37, 38, 39, 40, 41, 42, 43, 44, 45, 46, 47, 48, 49, 50, 51, 52, 53, 54, 55, 56, 57, 58, 59, 60, 61, 62, 63, 64, 65, 66, 67, 68, 69, 70, 71, 72, 73, 74, 75, 76, 77, 78, 79, 80, 81, 82, 83, 84, 85, 86, 87, 88, 89, 90, 91, 92, 93, 94, 95, 96, 97, 98, 99, 100, 101, 102, 103, 104, 105, 106, 107, 108, 109, 110, 111, 112, 113, 114, 115, 116, 117, 118, 119, 120, 121, 122, 123, 124, 125, 126, 127, 128, 129, 130, 131, 132, 133, 134, 135, 136, 137, 138, 139, 140, 141, 142, 143, 144, 145, 146, 147, 148, 149, 150, 151] (σ := Nat × List Pf × Value) (fun zz => match zz with | (i, out, u) => [(11, .own u 4 (Pf.cellss out)), (16, .val (.int .i64 i))]) (fun zz => match zz with | (i, out, u) => [.own 30 4 u]) (fun zz => match zz with | (i, out, u) => i ≤ cl.length ∧ out.length ≤ 101000 + 100000000 * i ∧ out ++ clsF W (.mk pc ⟨pk, ps, pn, pl⟩) (cl.drop i) = T) (fun zz => match zz with | (i, out, u) => cl.length - i) ((0, out, u))
    ·repeat' (first | exact Ug | apply Ue rfl | apply Uf rfl)
    ·exact ⟨Nat.zero_le _, by omega, hD⟩
    ·exact by4
    ·exact by3
    rintro ⟨i, out, u⟩ hI
    try dsimp only [List.cons_append, List.nil_append] at hI ⊢
    obtain ⟨hi, ho, hD⟩ := hI
    refine Zf (Zf (Zc (Za 85 V V V (Zd V V (Za 86 V V V (Zj V Wi V V (Za 87 V V V (Zp V Vj V V ?_))))))))
    refine Za 88 V V V (Yx V tu_35 V (.seq _ _) (fun n88 => ?_))
    refine Za 89 V V V (Yq V V V ?_); intro c89 h89
    refine Vq (Zb ?_)
    rcases Zh h89 with ⟨rfl, g89⟩ | ⟨rfl, g89⟩
    ·refine Zn V (Yy (Xa (Xs (Yz (Zb (Zf (Zf ?_)))))))
     rw [Uj (by omega), clsF, List.append_nil] at hD
     subst hD
     have hol := Pf.cellss_len out
     refine Zc (Za 152 V V V (Zd V V ?_))
     refine Za 153 V V V (Yx V tu_28 V (.own _ _ _) (fun n153 => ?_))
     refine Za 154 V V V (Zd V V (Za 155 V V V (Wv V V V ?_))); intro c155 h155
     refine Vq (Zb ?_)
     rcases Zh h155 with ⟨rfl, g155⟩ | ⟨rfl, g155⟩
     ·refine Zn V (Zt (Zb (Zf (Zc (Za 159 V V V (Zd V V (Za 10 V V V (Ze V V (Vq (Zb (Ya ?_)))))))))))
      first
      | rw [List.take_of_length_le (by omega)]; exact Yg rfl rfl (Le.own _ _ _) (Vs _) ⟨rfl, rfl⟩
      | exact Yg rfl rfl (Le.seq_eq (by simp [Pf.cellss_map])) (Vs _) ⟨rfl, rfl⟩
     ·refine Zr V (Zc (Za 156 V V V (Zd V V (Za 157 V V V (Zd V V (Za 158 V V V (op_cuth (k := m) V te_28 V (.own _ _ _) V (by omega) (by omega) ?_)))))))
      refine Za 11 V V V (Ze V V (Vq (Zb (Zf (Zc (Za 159 V V V (Zd V V (Za 10 V V V (Ze V V (Vq (Zb (Ya ?_))))))))))))
      first
      | rw [List.take_of_length_le (by omega)]; exact Yg rfl rfl (Le.own _ _ _) (Vs _) ⟨rfl, rfl⟩
      | exact Yg rfl rfl (Le.seq_eq (by simp [Pf.cellss_map])) (Vs _) ⟨rfl, rfl⟩
    ·refine Zr V (Zt (Zb (Zf (Zw (Zf (Zc (Za 17 V V V (Ze V V (Vq (Zb (Zw ?_)))))))))))
     obtain ⟨⟨ys, yv, ysu, yms, yds, yp⟩, hxy⟩ := Yu (l := cl) (i := i) (by omega)
     have hcy := Cl.cellss_get hxy
     have hmy := Ui hxy
     rw [Xn hxy, clsF] at hD
     have hsl := hsub _ hmy
     have hls := Xy ysu
     have HCy := HC ys
     simp only [Cl.s, Cl.su, Cl.cells] at hsl hD hcy
     obtain ⟨w, hw⟩ : ∃ w, W (.mk ys ⟨pk, ps, pn, pl⟩) = w := ⟨_, rfl⟩
     have hwm := hW (.mk ys ⟨pk, ps, pn, pl⟩)
     rw [hw] at hwm HCy
     have hwl := Pf.cellss_len w
     apply Xp [0, 2, 6, 8, 9, 11, 12, 13, 14, 15, 17, 18, 19, 20, 21, 22, 23, 24, 25, 26, 27, 28, 29, 30, 31, 32, 33, 34, 35, 36, 37, 38, 39, 40, 41, 42, 43, 44, 45, 46, 47, 48, 49, 50, 51, 52, 53, 54, 55, 56, 57, 58, 59, 60, 61, 62, 63, 64, 65, 66, 67, 68, 69, 70, 71, 72, 73, 74, 75, 76, 77, 78, 79, 80, 81, 82, 83, 84, 92, 93, 94, 95, 96, 97, 98, 99, 100, 101, 102, 103, 104, 105, 106, 107, 108, 109, 110, 111, 112, 113, 114, 115, 116, 117, 118, 119, 120, 121, 122, 123, 124, 125, 126, 127, 128, 129, 130, 131, 132, 133, 134, 135, 136, 137, 138, 139, 140, 141, 142, 143, 144, 145, 146, 147, 148, 149, 150, 151] (σ := Nat × List Pf × Value) (fun zz => match zz with | (n, out, u) => [(11, .own u 4 (Pf.cellss out)), (17, .val (.int .i64 n))]) (fun zz => match zz with | (n, out, u) => [.own 30 4 u]) (fun zz => match zz with | (n, out, u) => n ≤ ysu.length ∧ out.length ≤ 101000 + 100000000 * i + 1000 * n ∧ out ++ (supsF W ys ⟨pk, ps, pn, pl⟩ pc (ysu.drop n) n ++ clsF W (.mk pc ⟨pk, ps, pn, pl⟩) (cl.drop (i + 1))) = T) (fun zz => match zz with | (n, out, u) => ysu.length - n) ((0, out, u))
     ·repeat' (first | exact Ug | apply Ue rfl | apply Uf rfl)
     ·exact ⟨Nat.zero_le _, by omega, hD⟩
     ·exact by4
     ·exact by3
     rintro ⟨n, out, u⟩ hI
     try dsimp only [List.cons_append, List.nil_append] at hI ⊢
     obtain ⟨hn, ho2, hD2⟩ := hI
     refine Zf (Zf (Zc (Za 92 V V V (Zd V V (Za 93 V V V (Zj V Wi V V (Za 94 V V V (Zp V Vj V V (Za 95 V V V (Zd V V (Za 96 V V V (Yd V te_35 V (.seq _ _) V V (hcy) (Za 97 V V V (Zj V tf_77_2 V V (Za 98 V V V (Zp V ta_68 V V ?_))))))))))))))))
     refine Za 99 V V V (Yx V tu_68 V (.seq _ _) (fun n99 => ?_))
     refine Za 100 V V V (Yq V V V ?_); intro c100 h100
     refine Vq (Zb ?_)
     rcases Zh h100 with ⟨rfl, g100⟩ | ⟨rfl, g100⟩
     ·refine Zn V (Yy (Xa (Xs (Yz (Yn (Zb (Zc (Za 90 V V V (Zd V V (Za 91 V V V (Yt V V V (Uh _ (by omega)) ?_)))))))))))
      refine Za 16 V V V (Ze V V (Vq (Yv ?_)))
      rw [show ysu.drop n = [] from Uj (by omega), supsF, List.nil_append] at hD2
      exact ⟨(i + 1, out, u), ⟨by show i + 1 ≤ cl.length; omega, by show out.length ≤ 101000 + 100000000 * (i + 1); omega, hD2⟩, by show cl.length - (i + 1) < cl.length - i; omega, by4, by3⟩
     ·refine Zr V (Zt (Zb (Zf (Zw (Zf ?_)))))
      obtain ⟨s, hxs⟩ := Yu (l := ysu) (i := n) by7
      have hcs := strs_get hxs
      have hms := Ui hxs
      rw [Xn hxs, supsF] at hD2
      refine Wo Wk V (Zs 103 V V (Zj V Wi V V ⟨V, V⟩) ?_)
      refine Zs 104 V V (Zp V Vj V V ⟨V, V⟩) ?_
      refine Zs 105 V V (Zd V V ⟨V, V⟩) ?_
      refine Zs 106 V V (Yd V te_35 V (.seq _ _) V V (by first | exact hcy | exact hcs) ⟨V, V⟩) ?_
      refine Zs 107 V V (Zj V tf_77_2 V V ⟨V, V⟩) ?_
      refine Zs 108 V V (Zp V ta_68 V V ⟨V, V⟩) ?_
      refine Zs 109 V V (Zd V V ⟨V, V⟩) ?_
      refine Zs 110 V V (Yd V te_68 V (.seq _ _) V V (by first | exact hcy | exact hcs) ⟨V, V⟩) ?_
      refine Zs 111 V V (Zp V Xd V V ⟨V, V⟩) ?_
      refine Zs 112 V V (Zj V Wy V V ⟨V, V⟩) ?_
      refine Zs 113 V V (Zp V Xd V V ⟨V, V⟩) ?_
      refine Wb 114 V V (fun _ q => Xt V V V q) ?_; intro c114 h114
      show AGo _ _ _ _ _ _ _
      refine Zb ?_
      rcases Zh h114 with ⟨rfl, g114⟩ | ⟨rfl, g114⟩
      ·refine Zn V (Zt (Yn (Zb (Zc (Za 101 V V V (Zd V V (Za 102 V V V (Yt V V V (Uh _ (by omega)) ?_))))))))
       refine Za 17 V V V (Ze V V (Vq (Yv ?_)))
       first
       | rw [Uj (by omega), List.map_nil, List.nil_append] at hD3; exact ⟨(n + 1, out, u), ⟨by show n + 1 ≤ ysu.length; omega, by show out.length ≤ 101000 + 100000000 * i + 1000 * (n + 1); omega, hD3⟩, by show ysu.length - (n + 1) < ysu.length - n; omega, by4, by3⟩
       | rw [if_neg g114, List.nil_append] at hD2; exact ⟨(n + 1, out, u), ⟨by show n + 1 ≤ ysu.length; omega, by show out.length ≤ 101000 + 100000000 * i + 1000 * (n + 1); omega, hD2⟩, by show ysu.length - (n + 1) < ysu.length - n; omega, by4, by3⟩
      ·refine Zr V (Zf ?_)
       rw [if_pos g114, hw, List.append_assoc] at hD2
       refine Wo Wk V (Zs 115 V V (Yc (cs' := [_, _, _]) V Wf V V V ⟨V, V⟩) ?_)
       refine Zs 116 V V (Zd V V ⟨V, V⟩) ?_
       refine Zs 117 V V (Zj V Wi V V ⟨V, V⟩) ?_
       refine Zs 118 V V (Zp V Vj V V ⟨V, V⟩) ?_
       refine Zs 119 V V (Zd V V ⟨V, V⟩) ?_
       refine Zs 120 V V (Yd V te_35 V (.seq _ _) V V (hcy) ⟨V, V⟩) ?_
       refine Zs 121 V V (Zj V tf_77_0 V V ⟨V, V⟩) ?_
       refine Zs 122 V V (Zp V Xd V V ⟨V, V⟩) ?_
       refine Zs 123 V V (Zj V Wl V V ⟨V, V⟩) ?_
       refine Zs 124 V V (Yc (cs' := [_, _, _, _]) V Xq V V V ⟨V, V⟩) ?_
       refine Zs 125 V V (Yj (ns := [0, 1]) (xs := [.tmp 122, .tmp 124]) V tz_27 V tfl_27 V V V V ⟨V, V⟩) ?_
       refine Zs 126 V V (Zd V V ⟨V, V⟩) ?_
       refine Zs 127 V V (op_sub V V V (Uh _ (by omega)) ⟨V, V⟩) ?_
       refine Zs 128 V V (Zd V V ⟨V, V⟩) ?_
       refine Zs 129 V V (Yk (xs := [.tmp 115, .tmp 116, .tmp 125, .tmp 127, .tmp 128]) V V (HCy) by1 ⟨V, V⟩) ?_
       refine Zs 18 V V (Ze V V ⟨V, V⟩) ?_
       show AGo _ _ _ _ _ _ _
       refine Zb (Zf (Zc (Za 19 V V V (Ze V V (Vq (Zb (Zw ?_)))))))
       apply Xp [0, 2, 6, 8, 9, 11, 12, 13, 14, 15, 19, 20, 21, 22, 23, 24, 25, 26, 27, 28, 29, 30, 31, 32, 33, 34, 35, 36, 37, 38, 39, 40, 41, 42, 43, 44, 45, 46, 47, 48, 49, 50, 51, 52, 53, 54, 55, 56, 57, 58, 59, 60, 61, 62, 63, 64, 65, 66, 67, 68, 69, 70, 71, 72, 73, 74, 75, 76, 77, 78, 79, 80, 81, 82, 83, 84, 130, 131, 132, 133, 134, 135, 136, 137, 138, 139, 140, 141, 142, 143, 144, 145, 146, 147, 148, 149, 150, 151] (σ := Nat × List Pf × Value) (fun zz => match zz with | (j, out, u) => [(11, .own u 4 (Pf.cellss out)), (19, .val (.int .i64 j))]) (fun zz => match zz with | (j, out, u) => [.own 30 4 u]) (fun zz => match zz with | (j, out, u) => j ≤ w.length ∧ out.length ≤ 101000 + 100000000 * i + 1000 * n + j ∧ out ++ ((w.drop j).map (fun x => Pf.mk 2 n ys [x]) ++ (supsF W ys ⟨pk, ps, pn, pl⟩ pc (ysu.drop (n + 1)) (n + 1) ++ clsF W (.mk pc ⟨pk, ps, pn, pl⟩) (cl.drop (i + 1)))) = T) (fun zz => match zz with | (j, out, u) => w.length - j) ((0, out, u))
       ·repeat' (first | exact Ug | apply Ue rfl | apply Uf rfl)
       ·exact ⟨Nat.zero_le _, by omega, hD2⟩
       ·exact by4
       ·exact by3
       rintro ⟨j, out, u⟩ hI
       try dsimp only [List.cons_append, List.nil_append] at hI ⊢
       obtain ⟨hj, ho3, hD3⟩ := hI
       have hol := Pf.cellss_len out
       refine Zf (Zf (Zc (Za 130 V V V (Zd V V (Za 131 V V V (Zd V V ?_))))))
       refine Za 132 V V V (Yx V tu_28 V (.seq _ _) (fun n132 => ?_))
       refine Za 133 V V V (Yq V V V ?_); intro c133 h133
       refine Vq (Zb ?_)
       rcases Zh h133 with ⟨rfl, g133⟩ | ⟨rfl, g133⟩
       ·refine Zn V (Yy (Xa (Xs (Yz (Yn (Zb (Zc (Za 101 V V V (Zd V V (Za 102 V V V (Yt V V V (Uh _ (by omega)) ?_)))))))))))
        refine Za 17 V V V (Ze V V (Vq (Yv ?_)))
        first
        | rw [Uj (by omega), List.map_nil, List.nil_append] at hD3; exact ⟨(n + 1, out, u), ⟨by show n + 1 ≤ ysu.length; omega, by show out.length ≤ 101000 + 100000000 * i + 1000 * (n + 1); omega, hD3⟩, by show ysu.length - (n + 1) < ysu.length - n; omega, by4, by3⟩
        | rw [if_neg g114, List.nil_append] at hD2; exact ⟨(n + 1, out, u), ⟨by show n + 1 ≤ ysu.length; omega, by show out.length ≤ 101000 + 100000000 * i + 1000 * (n + 1); omega, hD2⟩, by show ysu.length - (n + 1) < ysu.length - n; omega, by4, by3⟩
       ·refine Zr V (Zt (Zb (Zf (Zw ?_))))
        obtain ⟨⟨xk, xn, xc, xl⟩, hxx⟩ := Yu (l := w) (i := j) (by omega)
        have hcx := Pf.cellss_get hxx
        simp only [Pf.cells] at hcx
        rw [Xn hxx, List.map_cons, List.cons_append] at hD3
        refine Xu [0, 1, 2, 3, 4, 5, 6, 7, 8, 9, 10, 11, 12, 13, 14, 15, 16] [15] [[], [], [], [2], [], [2, 3, 4], [2, 3, 4, 5], [2, 3, 4, 5, 6], [], [], [8, 9], [8, 9, 10], [8, 9, 10, 11], [1, 2, 3, 4, 5, 6, 7, 8, 9, 10, 11, 12], [1, 2, 3, 4, 5, 6, 7, 8, 9, 10, 11, 12, 13], [0, 1, 2, 3, 4, 5, 6, 7, 8, 9, 10, 11, 12, 13, 14], [0, 1, 2, 3, 4, 5, 6, 7, 8, 9, 10, 11, 12, 13, 14, 15]] Wk V (Zz 136 (none) (i := 0) V V V V V (Zd V V ⟨V, V⟩) ?_)
        refine Zz 137 (none) (i := 1) V V V V V (Zd V V ⟨V, V⟩) ?_
        refine Zz 138 (none) (i := 2) V V V V V (Zj V Wi V V ⟨V, V⟩) ?_
        refine Zz 139 (none) (i := 3) V V V V V (Zp V Vj V V ⟨V, V⟩) ?_
        refine Zz 140 (none) (i := 4) V V V V V (Zd V V ⟨V, V⟩) ?_
        refine Zz 141 (none) (i := 5) V V V V V (Yd V te_35 V (.seq _ _) V V (by first | exact hcy | exact hcx) ⟨V, V⟩) ?_
        refine Zz 142 (none) (i := 6) V V V V V (Zj V tf_77_0 V V ⟨V, V⟩) ?_
        refine Zz 143 (none) (i := 7) V V V V V (Zp V Xd V V ⟨V, V⟩) ?_
        refine Zz 144 (none) (i := 8) V V V V V (Zd V V ⟨V, V⟩) ?_
        refine Zz 145 (none) (i := 9) V V V V V (Zd V V ⟨V, V⟩) ?_
        refine Zz 146 (none) (i := 10) V V V V V (Yd V te_28 V (.seq _ _) V V (by first | exact hcy | exact hcx) ⟨V, V⟩) ?_
        refine Zz 147 (none) (i := 11) V V V V V (Yc (cs' := [_, _, _, _]) V Wu V V V ⟨V, V⟩) ?_
        refine Zz 148 (none) (i := 12) V V V V V (Yb (xs := [.tmp 147]) el_28 V V V V V V (Ud V) ⟨V, V⟩) ?_
        refine Zz 149 (none) (i := 13) V V V V V (Yj (ns := [0, 1, 2, 3]) (xs := [.const (.int .i64 2), .tmp 137, .tmp 143, .tmp 148]) V tz_30 V tfl_30 V V V V ⟨V, V⟩) ?_
        refine Zz 150 (none) (i := 14) V V V V V (Yb (xs := [.tmp 149]) el_28 V V V V V V (Ud V) ⟨V, V⟩) ?_
        refine Xm 0 (i := 15) V V V V V (Xg (i := 0) el_28 V V V V (.seq _ _) by6 (fun u151 => ⟨_, V, ?_⟩))
        refine Zz 11 (none) (i := 16) V V V V V (Ze V V ⟨V, V⟩) ?_
        show AGo _ _ _ _ _ _ _
        refine Yn (Zb (Zc (Za 134 V V V (Zd V V (Za 135 V V V (Yt V V V (Uh _ (by omega)) ?_))))))
        refine Za 19 V V V (Ze V V (Vq (Yv ?_)))
        exact ⟨(j + 1, out ++ [Pf.mk 2 n ys [Pf.mk xk xn xc xl]], u151), ⟨by show j + 1 ≤ w.length; omega, by show (out ++ [Pf.mk 2 n ys [Pf.mk xk xn xc xl]]).length ≤ 101000 + 100000000 * i + 1000 * n + (j + 1); rw [List.length_append, List.length_singleton]; omega, by rw [List.append_assoc]; exact hD3⟩, by show w.length - (j + 1) < w.length - j; omega, Ua V (pf_more (by simp only [Pf.cells, Pf.cellss]; exact by2) V) by4, by3⟩
   ·refine Zr V (Zt (Zb (Zf (Zw (Zf ?_)))))
    obtain ⟨⟨yc, ⟨yhdk, yhds, yhdn, yhdl⟩, ycx, ybs, yp⟩, hxy⟩ := Yu (l := ins) (i := i) by7
    have hcy := In.cellss_get hxy
    have hmy := Ui hxy
    have HFy := HF (In.mk yc ⟨yhdk, yhds, yhdn, yhdl⟩ ycx ybs yp)
    have HEy := HE i _ hxy
    rw [propext HEy] at HFy
    simp only [In.cells, Ty.cells, List.cons_append, List.nil_append] at HFy
    refine Wo Wk V (Zs 52 V V (Zj V Vi V V ⟨V, V⟩) ?_)
    refine Zs 53 V V (Zp V ta_36 V V ⟨V, V⟩) ?_
    refine Zs 54 V V (Zd V V ⟨V, V⟩) ?_
    refine Zs 55 V V (Yd V te_36 V (.seq _ _) V V (hcy) ⟨V, V⟩) ?_
    refine Zs 56 V V (Yc (cs' := [_, _, _, _, _, _, _, _]) V ta_73 V V V ⟨V, V⟩) ?_
    refine Zs 57 V V (Yc (cs' := [_, _, _, _, _]) V ta_27 V V V ⟨V, V⟩) ?_
    refine Wb 58 V V (fun _ q => Yh (xs := [.tmp 56, .tmp 57]) V V (HFy) by1 q) ?_; intro c58 h58
    show AGo _ _ _ _ _ _ _
    refine Zb ?_
    rcases Zh h58 with ⟨rfl, g58⟩ | ⟨rfl, g58⟩
    ·refine Zn V (Zt (Yn (Zb (Zc (Za 50 V V V (Zd V V (Za 51 V V V (Yt V V V (Uh _ (by omega)) ?_))))))))
     refine Za 13 V V V (Ze V V (Vq (Yv ?_)))
     first
     | rw [Uj (by omega), List.map_nil] at hD2; exact ⟨(i + 1, out, u), ⟨by show i + 1 ≤ ins.length; omega, by show out.length ≤ 100000 + cntJ fb i (i + 1); rw [cntJ_past hfb]; omega, by show out ++ (insJ fb i R (i + 1) ++ _) = _; rw [insJ_past (fun _ => by omega)]; exact hD2⟩, by show ins.length - (i + 1) < ins.length - i; omega, by4, by3⟩
     | exact ⟨(i + 1, out, u), ⟨by show i + 1 ≤ ins.length; omega, by show out.length ≤ 100000 + cntJ fb ii (i + 1); rw [cntJ_step g58]; exact ho, by show out ++ (insJ fb ii R (i + 1) ++ _) = _; rw [insJ_step g58]; exact hD⟩, by show ins.length - (i + 1) < ins.length - i; omega, by4, by3⟩
    ·refine Zr V (Zf ?_)
     obtain ⟨hfb, hii⟩ := g58
     subst hii
     have HNi := HN i rfl
     rw [insJ_hit hfb] at hD
     rw [cntJ_hit] at ho
     refine Wo Wk V (Zs 59 V V (Yc (cs' := [_, _, _]) V Wf V V V ⟨V, V⟩) ?_)
     refine Zs 60 V V (Zd V V ⟨V, V⟩) ?_
     refine Zs 61 V V (Yc (cs' := [_, _, _]) V Wf V V V ⟨V, V⟩) ?_
     refine Zs 62 V V (Zd V V ⟨V, V⟩) ?_
     refine Zs 63 V V (Zj V Wl V V ⟨V, V⟩) ?_
     refine Zs 64 V V (Yc (cs' := [_, _, _, _]) V Xq V V V ⟨V, V⟩) ?_
     refine Zs 65 V V (Yk (xs := [.tmp 61, .tmp 62, .tmp 64]) V V (HNi) by1 ⟨V, V⟩) ?_
     refine Zs 66 V V (Zd V V ⟨V, V⟩) ?_
     refine Zs 67 V V (op_sub V V V (Uh _ (by omega)) ⟨V, V⟩) ?_
     refine Zs 68 V V (Zd V V ⟨V, V⟩) ?_
     refine Zs 69 V V (Yk (xs := [.tmp 59, .tmp 60, .tmp 65, .tmp 67, .tmp 68]) V V (HR) by1 ⟨V, V⟩) ?_
     refine Zs 14 V V (Ze V V ⟨V, V⟩) ?_
     show AGo _ _ _ _ _ _ _
     refine Zb (Zf (Zc (Za 15 V V V (Ze V V (Vq (Zb (Zw ?_)))))))
     apply Xp [0, 2, 6, 8, 9, 11, 12, 15, 20, 21, 22, 23, 24, 25, 26, 27, 28, 29, 30, 31, 32, 33, 34, 35, 36, 37, 38, 39, 40, 41, 42, 43, 44, 70, 71, 72, 73, 74, 75, 76, 77, 78, 79, 80, 81, 82, 83, 84] (σ := Nat × List Pf × Value) (fun zz => match zz with | (k, out, u) => [(11, .own u 4 (Pf.cellss out)), (15, .val (.int .i64 k))]) (fun zz => match zz with | (k, out, u) => [.own 30 4 u]) (fun zz => match zz with | (k, out, u) => k ≤ R.length ∧ out.length ≤ 100000 + k ∧ out ++ ((R.drop k).map (fun r => Pf.mk 3 i kE r) ++ clsF W (.mk pc ⟨pk, ps, pn, pl⟩) cl) = T) (fun zz => match zz with | (k, out, u) => R.length - k) ((0, out, u))
     ·repeat' (first | exact Ug | apply Ue rfl | apply Uf rfl)
     ·exact ⟨Nat.zero_le _, ho, hD⟩
     ·exact by4
     ·exact by3
     rintro ⟨k, out, u⟩ hI
     try dsimp only [List.cons_append, List.nil_append] at hI ⊢
     obtain ⟨hk, ho2, hD2⟩ := hI
     have hol := Pf.cellss_len out
     refine Zf (Zf (Zc (Za 70 V V V (Zd V V (Za 71 V V V (Zd V V ?_))))))
     refine Za 72 V V V (Yx V tu_89 V (.seq _ _) (fun n72 => ?_))
     refine Za 73 V V V (Yq V V V ?_); intro c73 h73
     refine Vq (Zb ?_)
     rcases Zh h73 with ⟨rfl, g73⟩ | ⟨rfl, g73⟩
     ·refine Zn V (Yy (Xa (Xs (Yz (Yn (Zb (Zc (Za 50 V V V (Zd V V (Za 51 V V V (Yt V V V (Uh _ (by omega)) ?_)))))))))))
      refine Za 13 V V V (Ze V V (Vq (Yv ?_)))
      first
      | rw [Uj (by omega), List.map_nil] at hD2; exact ⟨(i + 1, out, u), ⟨by show i + 1 ≤ ins.length; omega, by show out.length ≤ 100000 + cntJ fb i (i + 1); rw [cntJ_past hfb]; omega, by show out ++ (insJ fb i R (i + 1) ++ _) = _; rw [insJ_past (fun _ => by omega)]; exact hD2⟩, by show ins.length - (i + 1) < ins.length - i; omega, by4, by3⟩
      | exact ⟨(i + 1, out, u), ⟨by show i + 1 ≤ ins.length; omega, by show out.length ≤ 100000 + cntJ fb ii (i + 1); rw [cntJ_step g58]; exact ho, by show out ++ (insJ fb ii R (i + 1) ++ _) = _; rw [insJ_step g58]; exact hD⟩, by show ins.length - (i + 1) < ins.length - i; omega, by4, by3⟩
     ·refine Zr V (Zt (Zb (Zf (Zw ?_))))
      obtain ⟨r, hr⟩ := Yu (l := R) (i := k) (by omega)
      have hcr : (R.map rowA)[k]? = some (rowA r) := by rw [List.getElem?_map, hr]; rfl
      simp only [rowA] at hcr
      rw [Xn hr, List.map_cons, List.cons_append] at hD2
      refine Zc (Za 76 V V V (Zd V V (Za 77 V V V (Zd V V (Za 78 V V V (Zd V V (Za 79 V V V (Zd V V (Za 80 V V V (Yd V te_89 V (.seq _ _) V V (hcr) (Za 81 V V V (Zp V ta_28 V V (Za 82 V V V (Yj (ns := [0, 1, 3]) (xs := [.const (.int .i64 3), .tmp 77, .tmp 81]) V tz_30 V tfl_30 V V V V (Za 83 V V V (Yb (xs := [.tmp 82]) el_28 V V V V V V (Ud V) (Za 84 V V V (Xg (i := 0) el_28 V V V V (.seq _ _) by6 ?_))))))))))))))))))
      intro u84
      refine Za 11 V V V (Ze V V (Vq (Yn (Zb (Zc (Za 74 V V V (Zd V V (Za 75 V V V (Yt V V V (Uh _ (by omega)) ?_)))))))))
      refine Za 15 V V V (Ze V V (Vq (Yv ?_)))
      exact ⟨(k + 1, out ++ [Pf.mk 3 i kE r], u84), ⟨by show k + 1 ≤ R.length; omega, by show (out ++ [Pf.mk 3 i kE r]).length ≤ 100000 + (k + 1); rw [List.length_append, List.length_singleton]; omega, by rw [List.append_assoc]; exact hD2⟩, by show R.length - (k + 1) < R.length - k; omega, Ua V (pf_more (by simp only [Pf.cells]; exact by2) V) by4, by3⟩
  ·refine Zr V (Zt (Zb (Zf (Zw (Zf ?_)))))
   obtain ⟨⟨gc, ⟨gtk, gts, gtn, gtl⟩⟩, hxg⟩ := Yu (l := gs) (i := i) by7
   have hcg := Pr.cellss_get hxg
   have hmg := Ui hxg
   rw [Xn hxg, givsF] at hD
   have HGg := HG (Pr.mk gc ⟨gtk, gts, gtn, gtl⟩)
   simp only [Ty.cells] at HGg
   refine Wo Wk V (Zs 34 V V (Zd V V ⟨V, V⟩) ?_)
   refine Zs 35 V V (Zd V V ⟨V, V⟩) ?_
   refine Zs 36 V V (Yd V te_22 V (.seq _ _) V V (hcg) ⟨V, V⟩) ?_
   refine Zs 37 V V (Yc (cs' := [_, _, _, _, _]) V ta_27 V V V ⟨V, V⟩) ?_
   refine Zs 38 V V (Yc (cs' := [_, _, _, _, _]) V ta_27 V V V ⟨V, V⟩) ?_
   refine Wb 39 V V (fun _ q => Yh (xs := [.tmp 37, .tmp 38]) V V (HGg) by1 q) ?_; intro c39 h39
   show AGo _ _ _ _ _ _ _
   refine Zb ?_
   rcases Zh h39 with ⟨rfl, g39⟩ | ⟨rfl, g39⟩
   ·refine Zn V (Zt (Yn (Zb (Zc (Za 32 V V V (Zd V V (Za 33 V V V (Yt V V V (Uh _ (by omega)) ?_))))))))
    refine Za 12 V V V (Ze V V (Vq (Yv ?_)))
    first
    | rw [if_pos g39] at hD; exact ⟨(i + 1, out ++ [Pf.mk 1 i kE []], u44), ⟨by show i + 1 ≤ gs.length; omega, by show (out ++ [Pf.mk 1 i kE []]).length ≤ i + 1; rw [List.length_append, List.length_singleton]; omega, by rw [List.append_assoc]; rw [List.append_assoc] at hD; exact hD⟩, by show gs.length - (i + 1) < gs.length - i; omega, Ua rfl (pf_more (by simp only [Pf.cells, Pf.cellss]; exact by2) rfl) by4, by3⟩
    | rw [if_neg g39, List.nil_append] at hD; exact ⟨(i + 1, out, u), ⟨by show i + 1 ≤ gs.length; omega, by show out.length ≤ i + 1; omega, hD⟩, by show gs.length - (i + 1) < gs.length - i; omega, by4, by3⟩
   ·refine Zr V (Zc (Za 40 V V V (Zd V V (Za 41 V V V (Zd V V (Za 42 V V V (Yj (ns := [0, 1]) (xs := [.const (.int .i64 1), .tmp 41]) V tz_30 V tfl_30 V V V V (Za 43 V V V (Yb (xs := [.tmp 42]) el_28 V V V V V V (Ud V) (Za 44 V V V (Xg (i := 0) el_28 V V V V (.seq _ _) by6 ?_)))))))))))
    intro u44
    refine Za 11 V V V (Ze V V (Vq (Yn (Zb (Zc (Za 32 V V V (Zd V V (Za 33 V V V (Yt V V V (Uh _ (by omega)) ?_)))))))))
    refine Za 12 V V V (Ze V V (Vq (Yv ?_)))
    first
    | rw [if_pos g39] at hD; exact ⟨(i + 1, out ++ [Pf.mk 1 i kE []], u44), ⟨by show i + 1 ≤ gs.length; omega, by show (out ++ [Pf.mk 1 i kE []]).length ≤ i + 1; rw [List.length_append, List.length_singleton]; omega, by rw [List.append_assoc]; rw [List.append_assoc] at hD; exact hD⟩, by show gs.length - (i + 1) < gs.length - i; omega, Ua rfl (pf_more (by simp only [Pf.cells, Pf.cellss]; exact by2) rfl) by4, by3⟩
    | rw [if_neg g39, List.nil_append] at hD; exact ⟨(i + 1, out, u), ⟨by show i + 1 ≤ gs.length; omega, by show out.length ≤ i + 1; omega, hD⟩, by show gs.length - (i + 1) < gs.length - i; omega, by4, by3⟩
 ·omega
theorem rAll_c (v : En) (hv : EnC v) (hc12 : v.cl.length ≤ 12) (gs : List Pr) (hgb : gs.length ≤ 100000) : ∀ (d : Nat) (p : Pr), p.t.size ≤ 1000000 → ∀ (dv mv : Int), dv.toNat = d → dv ≤ 1000000 → PCall Tryz.prog 21 [.agg v.cells, .seq 5 (Pr.cellss gs), .agg p.cells, .val (.int .i64 dv), .val (.int .i64 mv)] (.seq 4 (Pf.cellss (allM v gs d p (min mv 1000).toNat)))
 | 0, p, _, dv, mv, h, _ => by
  rw [allM]
  exact rAll_none v gs p dv mv (.inl (by omega))
 | d + 1, p, hp, dv, mv, h, h2 => by
  by_cases q : mv < 1
  ·rw [show (min mv 1000).toNat = 0 by omega, allM_zero]
   exact rAll_none v gs p dv mv (.inr q)
  ·have IH := fun p hp => rAll_c v hv hc12 gs hgb d p hp (dv - 1) ((min mv 1000).toNat : Int) (by omega) (by omega)
   rw [show (min ((min mv 1000).toNat : Int) 1000).toNat = (min mv 1000).toNat by omega] at IH
   rw [allM]
   exact rAll_some v hv hc12 gs hgb p dv mv (by omega) h2 (min mv 1000).toNat (by omega) (by omega) (fun q => allM v gs d q (min mv 1000).toNat) (fun q => allM_le v gs _ d q) (fun q hq => IH q (by omega))
theorem allF_eq (v : En) (gs : List Pr) (p : Pr) (dv mv : Int) : allM v gs dv.toNat p (min mv 1000).toNat = allF v gs p dv mv := allM_eq v gs _ _ p
end Go.Proofs.YtknodnfbaofngaaGreat
namespace Go.Proofs.YtknodnfbaofngaaGreat
def srcB : ByteArray := ⟨#[100, 97, 116, 97, 32, 76, 105, 115, 116, 32, 97, 32, 61, 32, 78, 105, 108, 32, 124, 32, 67, 111, 110, 115, 32, 97, 32, 40, 76, 105, 115, 116, 32, 97, 41, 59, 32, 99, 108, 97, 115, 115, 32, 69, 113, 32, 97, 32, 119, 104, 101, 114, 101, 32, 101, 110, 100, 59, 32, 99, 108, 97, 115, 115, 32, 79, 114, 100, 32, 97, 32, 102, 114, 111, 109, 32, 69, 113, 32, 119, 104, 101, 114, 101, 32, 101, 110, 100, 59, 32, 105, 110, 115, 116, 97, 110, 99, 101, 32, 69, 113, 32, 73, 110, 116, 32, 119, 104, 101, 114, 101, 32, 101, 110, 100, 59, 32, 105, 110, 115, 116, 97, 110, 99, 101, 32, 69, 113, 32, 40, 76, 105, 115, 116, 32, 97, 41, 32, 102, 114, 111, 109, 32, 69, 113, 32, 97, 32, 119, 104, 101, 114, 101, 32, 101, 110, 100, 59, 32, 105, 110, 115, 116, 97, 110, 99, 101, 32, 79, 114, 100, 32, 40, 76, 105, 115, 116, 32, 97, 41, 32, 102, 114, 111, 109, 32, 79, 114, 100, 32, 97, 32, 119, 104, 101, 114, 101, 32, 101, 110, 100, 59]⟩
open Go.RowKit
def tyv (s : ByteArray) : Ty := .mk 1 s 0 []
def tyc (s : ByteArray) (l : List Ty) : Ty := .mk 3 s 0 l
abbrev sList : ByteArray := ⟨#[76, 105, 115, 116]⟩
abbrev sNil : ByteArray := ⟨#[78, 105, 108]⟩
abbrev sCons : ByteArray := ⟨#[67, 111, 110, 115]⟩
abbrev sa : ByteArray := ⟨#[97]⟩
abbrev sEq : ByteArray := ⟨#[69, 113]⟩
abbrev sOrd : ByteArray := ⟨#[79, 114, 100]⟩
abbrev sInt : ByteArray := ⟨#[73, 110, 116]⟩
def srcPg : Pg := .mk
 [.mk sList [sa] [.mk sNil [] 14, .mk sCons [tyv sa, tyc sList [tyv sa]] 20] [] 5]
 [.mk sEq sa [] [] [] 43, .mk sOrd sa [sEq] [] [] 65]
 [.mk sEq (tyc sInt []) [] [] 99, .mk sEq (tyc sList [tyv sa]) [.mk sEq (tyv sa)] [] 126, .mk sOrd (tyc sList [tyv sa]) [.mk sOrd (tyv sa)] [] 168] []
theorem src_pg : progT srcB = (srcPg, 0, 0) := by kernel_rfl
theorem src_check : checkR srcPg = (0, 0) := by kernel_rfl
section
variable {P : Program} {l : List Oper} {ws : List Nat} {anc : List (List Nat)} {QQ : Sl → Mem → Prop} {ord : List Nat} {al : Sl} {M : Mem} {L : List (Nat × Nat)} {o : Oper}
theorem EOps.dg {v : AV} {i j : Nat} {b : Bool} {t : Tmp} (d : Nat) (fp : Option Nat) (hi : l[i]? = some o) (hw : ws.contains i = false) (hg : o.guard = some (j, b)) (hj : (l[j]?).bind (·.dst) = some t) (hc : al.lookup t = some (.val (.bool b))) (hd : o.dst = some d) (hfp : fp.all (fun k => Nat.blt k M.length) = true) (h : OpT P { o with guard := none } (al.only (Oper.tmps o)) (fpm M fp) (fun v' M' => v' = v ∧ M' = fpm M fp)) (q : EOps P l ws anc QQ ord ((d, v) :: al) M ((fp.toList.map fun k => (i, k)) ++ L)) : EOps P l ws anc QQ (i :: ord) al M L :=
 ⟨o, hi, by rw [if_neg (by rw [hw]; simp)]; exact ⟨fp, v, hfp, by unfold DStep; rw [hg]; exact ⟨t, hj, .inl ⟨hc, h⟩⟩, by rw [hd]; exact q⟩⟩
theorem EOps.cmg {i j : Nat} {b : Bool} {t : Tmp} {p : Prop} (d : Nat) (hi : l[i]? = some o) (hw : ws.contains i = false) (hg : o.guard = some (j, b)) (hj : (l[j]?).bind (·.dst) = some t) (hc : al.lookup t = some (.val (.bool b))) (hd : o.dst = some d) (h : ∀ K : AV → Mem → Prop, (∀ c : Bool, (c = true ↔ p) → K (.val (.bool c)) []) → OpT P { o with guard := none } (al.only (Oper.tmps o)) [] K) (q : ∀ c : Bool, (c = true ↔ p) → EOps P l ws anc QQ ord ((d, .val (.bool c)) :: al) M L) : EOps P l ws anc QQ (i :: ord) al M L := by
 have : ∃ c : Bool, c = true ↔ p := by
  by_cases hp : p
  ·exact ⟨true, by simp [hp]⟩
  ·exact ⟨false, by simp [hp]⟩
 obtain ⟨c, hq⟩ := this
 refine EOps.dg d none hi hw hg hj hc hd V (h _ (fun c' hc' => ⟨?_, V⟩)) (q c hq)
 have : c' = c := by cases c <;> cases c' <;> simp_all
 rw [this]
theorem EOps.df {i j : Nat} {b : Bool} {t : Tmp} (d : Nat) (hi : l[i]? = some o) (hw : ws.contains i = false) (hg : o.guard = some (j, b)) (hj : (l[j]?).bind (·.dst) = some t) (hc : al.lookup t = some (.val (.bool !b))) (hd : o.dst = some d) (q : EOps P l ws anc QQ ord ((d, .val undef) :: al) M L) : EOps P l ws anc QQ (i :: ord) al M L :=
 ⟨o, hi, by rw [if_neg (by rw [hw]; simp)]; exact ⟨none, .val undef, rfl, by unfold DStep; rw [hg]; exact ⟨t, hj, .inr ⟨.inl hc, rfl⟩⟩, by rw [hd]; exact q⟩⟩
end
def psC (L : List Tok) (p : PS) : List AV := [.seq 4 (L.map Tok.av), .val (.int .i64 p.at_), .val (.int .i64 p.lv), .val (.int .i64 p.e), .val (.int .i64 p.wh)]
theorem next_c (b : Nat) (L : List Tok) (p : PS) : KCall Tryz.prog 50 [.ptr b 0] [.loc b (psC L p)] (.agg (nxt L p).av) := by
 obtain ⟨a, lv, e, wh⟩ := p
 have hl : (L.map Tok.av).length = L.length := List.length_map _
 simp only [psC]
 refine Zu Tryz.func50 V (by kernel_rfl) V (Ud V) ?_
 refine Yf (Zf (Zc (Za 2 V V V (Zy (cs' := [_, _, _, _]) V Wj V V ?_)))); intro b2
 refine Vq (Zb (Zf (Zf (c_boold 19 (e ≠ 0 ∨ L.length ≤ a) Wk V ?_ _ _ V ?_))))
 ·skip
  refine Zs 3 V V (Zd V V ⟨V, V⟩) ?_
  refine Zs 4 V V (Yl V V ⟨V, V⟩) ?_
  refine Zs 5 V V (Zg V Vn V ⟨V, V⟩) ?_
  refine Zs 6 V V (Zl (i := 1) V Xf V V V ⟨V, V⟩) ?_
  refine Wb 7 V V (fun _ q => Xw V V V q) ?_; intro c7 h7
  refine Zs 8 V V (Zd V V ⟨V, V⟩) ?_
  rcases Zh h7 with ⟨rfl, g7⟩ | ⟨rfl, g7⟩
  ·skip
   refine Ye 9 V V V V (Zd V V ⟨V, V⟩) ?_
   refine Ye 10 V V V V (Yl V V ⟨V, V⟩) ?_
   refine Ye 11 V V V V (Zg V tf_95_1 V ⟨V, V⟩) ?_
   refine Ye 12 V V V V (Zl (i := 1) V Xf V V V ⟨V, V⟩) ?_
   refine Ye 13 V V V V (Zd V V ⟨V, V⟩) ?_
   refine Ye 14 V V V V (Yl V V ⟨V, V⟩) ?_
   refine Ye 15 V V V V (Zg V tf_95_0 V ⟨V, V⟩) ?_
   refine Ye 16 V V V V (Zl (i := 1) V ta_93 V V V ⟨V, V⟩) ?_
   refine Ye 17 V V V V (Yx V tu_93 V (.seq _ _) (fun _ => ⟨V, V⟩)) ?_
   refine Wp 18 V V V V (fun _ q => Wm V V V q) ?_; intro c18 h18
   refine Zs 19 V V (Zo V V V ⟨V, V⟩) ?_
   show BoolQ _ _ _ _ _ _
   refine Ub V ?_ by5 by3
   simp_all; done
  ·skip
   refine Zv 9 V V V V (Zv 10 V V V V (Zv 11 V V V V (Zv 12 V V V V (Zv 13 V V V V (Zv 14 V V V V (Zv 15 V V V V (Zv 16 V V V V (Zv 17 V V V V (Zv 18 V V V V (Zs 19 V V (Zo V V V ⟨V, V⟩) ?_))))))))))
   show BoolQ _ _ _ _ _ _
   refine Ub V ?_ by5 by3
   simp_all; done
 intro c19 h19
 refine Zb ?_
 rcases Zh h19 with ⟨rfl, g19⟩ | ⟨rfl, g19⟩
 ·refine Zn V (Zt (Zb (Zf ?_)))
  obtain ⟨t, ht⟩ := Yu (l := L) (i := a) (by omega)
  have htc : (L.map Tok.av)[a]? = some t.av := by rw [List.getElem?_map, ht]; rfl
  refine Xu [0, 1, 2, 3, 4, 5, 6, 7, 8, 9, 10] [10] [[], [0], [0, 1], [0, 1, 2], [], [4], [4, 5], [4, 5, 6], [0, 1, 2, 3, 4, 5, 6, 7], [0, 1, 2, 3, 4, 5, 6, 7, 8], [0, 1, 2, 3, 4, 5, 6, 7, 8, 9]] Wk V (Zz 21 (none) (i := 0) V V V V V (Zd V V ⟨V, V⟩) ?_)
  refine Zz 22 (none) (i := 1) V V V V V (Yl V V ⟨V, V⟩) ?_
  refine Zz 23 (none) (i := 2) V V V V V (Zg V tf_95_0 V ⟨V, V⟩) ?_
  refine Zz 24 (some 1) (i := 3) V V V V V (Zl (i := 0) V ta_93 V V V ⟨V, V⟩) ?_
  refine Zz 25 (none) (i := 4) V V V V V (Zd V V ⟨V, V⟩) ?_
  refine Zz 26 (none) (i := 5) V V V V V (Yl V V ⟨V, V⟩) ?_
  refine Zz 27 (none) (i := 6) V V V V V (Zg V tf_95_1 V ⟨V, V⟩) ?_
  refine Zz 28 (some 1) (i := 7) V V V V V (Zl (i := 0) V Xf V V V ⟨V, V⟩) ?_
  refine Zz 29 (none) (i := 8) V V V V V (Yd V te_93 V (.seq _ _) V V (htc) ⟨V, V⟩) ?_
  refine Zz 30 (none) (i := 9) V V V V V (Yc (cs' := [_, _, _, _]) V Ys V V V ⟨V, V⟩) ?_
  refine Xm 0 (i := 10) V V V V V (Zm (cs' := [_, _, _, _]) (i := 0) V Xk V V V V V (Ud V) V ⟨_, V, ?_⟩)
  show AGo _ _ _ _ _ _ _
  refine Zb (Ya ?_)
  first | refine Ym (i := 0) V V V Ys V (Vx _) by3 ⟨?_, V⟩ | refine Ym (i := 1) V V V Ys V (Vx _) by3 ⟨?_, V⟩
  have hn : nxt L ⟨a, lv, e, wh⟩ = t := by
   unfold nxt
   rw [if_neg (fun q => g19 (.inl q)), ht]; rfl
  rw [hn]; rfl
 ·refine Zr V (Zf (Zc (Za 20 V V V (Yj (ns := []) (xs := []) V Wj V tfl_97 V V V V (Zq V V (Zm (cs' := [_, _, _, _]) (i := 0) V Xk V V V V V (Ud V) V (Vq (Zb (Ya ?_)))))))))
  first | refine Ym (i := 0) V V V Ys V (Vx _) by3 ⟨?_, V⟩ | refine Ym (i := 1) V V V Ys V (Vx _) by3 ⟨?_, V⟩
  have hn : nxt L ⟨a, lv, e, wh⟩ = tok0 0 := by
   unfold nxt
   by_cases q : e ≠ 0
   ·rw [if_pos q]
   ·rw [if_neg q, List.getElem?_eq_none (g19.resolve_left q)]; rfl
  rw [hn]; rfl
theorem is_p (b : Nat) (L : List Tok) (p : PS) (s : ByteArray) : KBCall Tryz.prog 80 [.ptr b 0, .val (.string s)] [.loc b (psC L p)] (isP L p s = true) := by
 have HN := next_c b L p
 have hI : isP L p s = true ↔ (6 ≤ (nxt L p).k ∧ (nxt L p).t = s) := by unfold isP; simp
 generalize isP L p s = c at *
 generalize nxt L p = t at *
 obtain ⟨tk, tt, tn, ta⟩ := t
 simp only [Tok.av] at HN hI
 refine Zu Tryz.func80 V (by kernel_rfl) V (Ud V) ?_
 refine Yf (Zf (Zc (Za 4 V V V (Ze V V (Vq (Zb (Zf (Zc (Za 6 V V V (Zd V V (Za 7 V V V (Ws (xs := [.tmp 6]) [0] V V V (HN) by1 ?_))))))))))))
 refine Za 5 V V V (Zy (cs' := [_, _, _, _]) V Wj V V ?_); intro b5
 refine Zq V V (Zm (cs' := [_, _, _, _]) (i := 0) V Xk V V V V V (Ud V) V (Vq (Zb (Zf (Xj 4 (6 ≤ tk ∧ tt = s) ?_ _ _ V ?_)))))
 ·skip
  refine Za 8 V V V (Zg V Xe V (Za 9 V V V (Zl (i := 0) V Xf V V V (Za 10 V V V (Wm V V V ?_))))); intro c10 h10
  refine Za 11 V V V (Zd V V ?_)
  rcases Zh h10 with ⟨rfl, g10⟩ | ⟨rfl, g10⟩
  ·skip
   refine Zi 12 V V V V V (Zi 13 V V V V V (Zi 14 V V V V V (Zi 15 V V V V V (Za 16 V V V (Zo V V V (Za 4 V V V (Ze V V (Vq (Ub V ?_ by5 by3)))))))))
   clear HN hI; first | (simp_all; done) | grind
  ·skip
   refine Zk 12 V V V V V (Zg V Xi V (Zk 13 V V V V V (Zl (i := 0) V Xd V V V (Zk 14 V V V V V (Zd V V (Zk 15 V V V V V (Xt V V V ?_))))))); intro c15 h15
   refine Za 16 V V V (Zo V V V (Za 4 V V V (Ze V V (Vq (Ub V ?_ by5 by3)))))
   clear HN hI; first | (simp_all; done) | grind
 intro c4 h4
 exact Zb (Ya (Yg V V (Vx _) by3 ⟨⟨_, h4.trans hI.symm, V⟩, V⟩))
theorem fail_c (b : Nat) (L : List Tok) (p : PS) (e wh : Int) : MCall Tryz.prog 79 [.ptr b 0, .val (.int .i64 e), .val (.int .i64 wh)] (.loc b (psC L p)) (.tup []) (.loc b (psC L (failP p e wh))) := by
 obtain ⟨a, lv, e0, wh0⟩ := p
 have hf : failP ⟨a, lv, e0, wh0⟩ e wh = if e0 = 0 then ⟨a, lv, e, wh⟩ else ⟨a, lv, e0, wh0⟩ := rfl
 rw [hf]
 simp only [psC]
 refine Zu Tryz.func79 V (by kernel_rfl) V (Ud V) ?_
 refine Yf (Zf (Zc (Za 6 V V V (Zd V V (Za 7 V V V (Yl V V (Za 8 V V V (Zg V Vn V (Za 9 V V V (Zl (i := 0) V Xf V V V (Za 10 V V V (Yw V V V ?_)))))))))))); intro c10 h10
 refine Vq (Zb ?_)
 rcases Zh h10 with ⟨rfl, g10⟩ | ⟨rfl, g10⟩
 ·refine Zn V (Zt (go_end ?_))
  exact out_none V (Vw (by simp [g10] <;> rfl)) ⟨V, V⟩
 ·refine Zr V (Zf (Zc (Za 11 V V V (Zd V V (Za 12 V V V (Zd V V (Za 13 V V V (Yl V V (Za 14 V V V (Zg V Vn V (Zq V V (Zm (i := 0) V Wh V V V V V (Ud V) V (Vq (Zb (Zc (Za 15 V V V (Zd V V (Za 16 V V V (Zd V V (Za 17 V V V (Yl V V (Za 18 V V V (Zg V tf_95_4 V (Zq V V (Zm (i := 0) V Wh V V V V V (Ud V) V ?_)))))))))))))))))))))))))
  refine Vq (go_end ?_)
  exact out_none V (Vw (by simp [g10] <;> rfl)) ⟨V, V⟩
theorem take_c (b : Nat) (L : List Tok) (hL : L.length ≤ 100000) (p : PS) (hp : p.at_ ≤ L.length) (kind : Int) (s : ByteArray) : MCall Tryz.prog 55 [.ptr b 0, .val (.int .i64 kind), .val (.string s)] (.loc b (psC L p)) (.agg (takeP L p kind s).1.av) (.loc b (psC L (takeP L p kind s).2)) := by
 have HN := next_c b L p
 have HF := fail_c b L p 110 (nxt L p).a
 obtain ⟨t, ht⟩ : ∃ t, nxt L p = t := ⟨_, rfl⟩
 obtain ⟨r, hr⟩ : ∃ r, takeP L p kind s = r := ⟨_, rfl⟩
 have hr0 := hr
 unfold takeP at hr
 rw [ht] at HN HF hr
 rw [hr0]
 obtain ⟨a, lv, e0, wh0⟩ := p
 obtain ⟨tk, tt, tn, ta⟩ := t
 have hp : a ≤ L.length := hp
 simp only [psC, Tok.av] at HN HF hr ⊢
 refine Zu Tryz.func55 V (by kernel_rfl) V (Ud V) ?_
 refine Yf (Zf (Zc (Za 6 V V V (Zy (cs' := [_, _, _, _]) V Wj V V ?_)))); intro b6
 refine Vq (Zb (Zf (Zc (Za 8 V V V (Zd V V (Za 9 V V V (Ws (xs := [.tmp 8]) [1] V V V (HN) by1 ?_)))))))
 refine Za 7 V V V (Zy (cs' := [_, _, _, _]) V Wj V V ?_); intro b7
 refine Zq V V (Zm (cs' := [_, _, _, _]) (i := 0) V Xk V V V V V (Ud V) V (Vq (Zb (Zf (Zf (Zc (Za 10 V V V (Zd V V (Za 11 V V V (Yl V V (Za 12 V V V (Zg V Vn V (Za 13 V V V (Zl (i := 2) V Xf V V V (Za 14 V V V (Xw V V V ?_)))))))))))))))); intro c14 h14
 refine Vq (Zb ?_)
 rcases Zh h14 with ⟨rfl, g14⟩ | ⟨rfl, g14⟩
 ·refine Zn V (Zt (Zb (Zf (Zf (Xj 38 ((kind < 6 ∧ tk ≠ kind) ∨ (6 ≤ kind ∧ (tk < 6 ∨ tt ≠ s))) ?_ _ _ V ?_)))))
  ·skip
   refine Za 16 V V V (Zd V V (Za 17 V V V (Yq V V V ?_))); intro c17 h17
   refine Za 18 V V V (Zd V V ?_)
   rcases Zh h17 with ⟨rfl, g17⟩ | ⟨rfl, g17⟩
   ·skip
    refine Zi 19 V V V V V (Zi 20 V V V V V (Zi 21 V V V V V (Zi 22 V V V V V (Za 23 V V V (Zo V V V (Za 24 V V V (Zd V V (Zk 25 V V V V V (Zd V V (Zk 26 V V V V V (Wm V V V ?_))))))))))); intro c26 h26
    refine Zk 27 V V V V V (Zd V V ?_)
    rcases Zh h26 with ⟨rfl, g26⟩ | ⟨rfl, g26⟩
    ·skip
     refine Zi 28 V V V V V (Zi 29 V V V V V (Zi 30 V V V V V (Zi 31 V V V V V (Yr 32 V V V V V (Yr 33 V V V V V (Yr 34 V V V V V (Yr 35 V V V V V (Zi 36 V V V V V (Zk 37 V V V V V (Zo V V V (Za 38 V V V (Zo V V V (Vq ?_)))))))))))))
     refine Ub V ?_ by5 by3
     clear HN HF hr; first | (simp_all; done) | grind
    ·skip
     refine Zk 28 V V V V V (Zg V Xe V (Zk 29 V V V V V (Zl (i := 0) V Xf V V V (Zk 30 V V V V V (Yq V V V ?_))))); intro c30 h30
     refine Zk 31 V V V V V (Zd V V ?_)
     rcases Zh h30 with ⟨rfl, g30⟩ | ⟨rfl, g30⟩
     ·skip
      refine Zk 32 V V V V V (Zg V Xi V (Zk 33 V V V V V (Zl (i := 0) V Xd V V V (Zk 34 V V V V V (Zd V V (Zk 35 V V V V V (op_sneq V V V ?_))))))); intro c35 h35
      refine Zk 36 V V V V V (Zo V V V (Zk 37 V V V V V (Zo V V V (Za 38 V V V (Zo V V V (Vq (Ub V ?_ by5 by3)))))))
      clear HN HF hr; first | (simp_all; done) | grind
     ·skip
      refine Zi 32 V V V V V (Zi 33 V V V V V (Zi 34 V V V V V (Zi 35 V V V V V (Zk 36 V V V V V (Zo V V V (Zk 37 V V V V V (Zo V V V (Za 38 V V V (Zo V V V (Vq (Ub V ?_ by5 by3)))))))))))
      clear HN HF hr; first | (simp_all; done) | grind
   ·skip
    refine Zk 19 V V V V V (Zg V Xe V (Zk 20 V V V V V (Zl (i := 0) V Xf V V V (Zk 21 V V V V V (Zd V V (Zk 22 V V V V V (Xw V V V ?_))))))); intro c22 h22
    refine Za 23 V V V (Zo V V V (Za 24 V V V (Zd V V ?_)))
    rcases Zh h22 with ⟨rfl, g22⟩ | ⟨rfl, g22⟩
    ·skip
     refine Zk 25 V V V V V (Zd V V (Zk 26 V V V V V (Wm V V V ?_))); intro c26 h26
     refine Zk 27 V V V V V (Zd V V ?_)
     rcases Zh h26 with ⟨rfl, g26⟩ | ⟨rfl, g26⟩
     ·skip
      refine Zi 28 V V V V V (Zi 29 V V V V V (Zi 30 V V V V V (Zi 31 V V V V V (Yr 32 V V V V V (Yr 33 V V V V V (Yr 34 V V V V V (Yr 35 V V V V V (Zi 36 V V V V V (Zk 37 V V V V V (Zo V V V (Za 38 V V V (Zo V V V (Vq ?_)))))))))))))
      refine Ub V ?_ by5 by3
      clear HN HF hr; first | (simp_all; done) | grind
     ·skip
      refine Zk 28 V V V V V (Zg V Xe V (Zk 29 V V V V V (Zl (i := 0) V Xf V V V (Zk 30 V V V V V (Yq V V V ?_))))); intro c30 h30
      refine Zk 31 V V V V V (Zd V V ?_)
      rcases Zh h30 with ⟨rfl, g30⟩ | ⟨rfl, g30⟩
      ·skip
       refine Zk 32 V V V V V (Zg V Xi V (Zk 33 V V V V V (Zl (i := 0) V Xd V V V (Zk 34 V V V V V (Zd V V (Zk 35 V V V V V (op_sneq V V V ?_))))))); intro c35 h35
       refine Zk 36 V V V V V (Zo V V V (Zk 37 V V V V V (Zo V V V (Za 38 V V V (Zo V V V (Vq (Ub V ?_ by5 by3)))))))
       clear HN HF hr; first | (simp_all; done) | grind
      ·skip
       refine Zi 32 V V V V V (Zi 33 V V V V V (Zi 34 V V V V V (Zi 35 V V V V V (Zk 36 V V V V V (Zo V V V (Zk 37 V V V V V (Zo V V V (Za 38 V V V (Zo V V V (Vq (Ub V ?_ by5 by3)))))))))))
       clear HN HF hr; first | (simp_all; done) | grind
    ·skip
     refine Zi 25 V V V V V (Zi 26 V V V V V (Zi 27 V V V V V (Yr 28 V V V V V (Yr 29 V V V V V (Yr 30 V V V V V (Yr 31 V V V V V (Yr 32 V V V V V (Yr 33 V V V V V (Yr 34 V V V V V (Yr 35 V V V V V (Yr 36 V V V V V ?_)))))))))))
     refine Zi 37 V V V V V (Za 38 V V V (Zo V V V (Vq (Ub V ?_ by5 by3))))
     clear HN HF hr; first | (simp_all; done) | grind
  intro c38 h38
  refine Zb ?_
  rcases Zh h38 with ⟨rfl, g38⟩ | ⟨rfl, g38⟩
  ·refine Zn V (Zt (Zb (Zf (Zc (Za 44 V V V (Zd V V (Za 45 V V V (Yl V V (Za 46 V V V (Zg V tf_95_1 V (Za 47 V V V (Zl (i := 2) V Xf V V V (Za 48 V V V (Yt V V V (Uh _ (by omega)) ?_))))))))))))))
   refine Za 49 V V V (Yl V V (Za 50 V V V (Zg V tf_95_1 V (Zq V V (Zm (i := 2) V Wh V V V V V (Ud V) V (Vq (Zb (Zf (Zc (Za 51 V V V (Zx (cs' := [_, _, _, _]) (i := 0) V Ys V V V V (Zq V V (Zm (cs' := [_, _, _, _]) (i := 1) V Xk V V V V V (Ud V) V (Vq (Zb (Ya ?_))))))))))))))))
   rw [if_neg g14, if_neg g38] at hr; subst hr; exact Ym (i := 1) rfl rfl rfl Ys rfl (Vx _) (Vu _ (Vu _ (Vw rfl))) ⟨rfl, rfl⟩
  ·refine Zr V (Zf (Zc (Za 39 V V V (Zd V V (Za 40 V V V (Zg V Ww V (Za 41 V V V (Zl (i := 0) V Xf V V V (Za 42 V V V (Yi (xs := [.tmp 39, .const (.int .i64 110), .tmp 41]) (i := 2) V V V (HF) by1 ?_))))))))))
   refine Vq (Zb (Zf (Zc (Za 43 V V V (Yj (ns := []) (xs := []) V Wj V tfl_97 V V V V (Zq V V (Zm (cs' := [_, _, _, _]) (i := 1) V Xk V V V V V (Ud V) V (Vq (Zb (Ya ?_))))))))))
   rw [if_neg g14, if_pos g38] at hr; subst hr; exact Ym (i := 1) rfl rfl rfl Ys rfl (Vx _) by3 ⟨rfl, rfl⟩
 ·refine Zr V (Zf (Zc (Za 15 V V V (Zx (cs' := [_, _, _, _]) (i := 0) V Ys V V V V (Zq V V (Zm (cs' := [_, _, _, _]) (i := 1) V Xk V V V V V (Ud V) V (Vq (Zb (Ya ?_)))))))))
  rw [if_pos g14] at hr; subst hr; exact Ym (i := 1) rfl rfl rfl Ys rfl (Vx _) by3 ⟨rfl, rfl⟩
theorem may_c (b : Nat) (L : List Tok) (hL : L.length ≤ 100000) (p : PS) (s : ByteArray) : MayCall Tryz.prog 51 [.ptr b 0, .val (.string s)] (.loc b (psC L p)) (isP L p s = true) (.loc b (psC L (stepP p))) := by
 have HI := is_p b L p s
 have hl := is_lt (L := L) (p := p) (s := s)
 obtain ⟨a, lv, e0, wh0⟩ := p
 simp only [psC] at HI hl ⊢
 refine Zu Tryz.func51 V (by kernel_rfl) V (Ud V) ?_
 refine Yf (Zf (Zc (Za 4 V V V (Ze V V (Vq (Zb (Zf (Zf (Zc (Za 5 V V V (Zd V V (Za 6 V V V (Zd V V (Za 7 V V V (op_callkb (xs := [.tmp 5, .tmp 6]) [0] V V V (HI) by1 ?_))))))))))))))); intro c7 h7
 refine Za 8 V V V (We V V ?_); intro c8 h8
 try replace h8 := nott h8 h7
 refine Vq (Zb ?_)
 rcases Zh h8 with ⟨rfl, g8⟩ | ⟨rfl, g8⟩
 ·refine Zn V (Zt (Zb (Zf ?_)))
  have := hl (Classical.not_not.1 g8)
  refine Zc (Za 9 V V V (Zd V V (Za 10 V V V (Yl V V (Za 11 V V V (Zg V tf_95_1 V (Za 12 V V V (Zl (i := 0) V Xf V V V (Za 13 V V V (Yt V V V (Uh _ (by omega)) ?_))))))))))
  exact Za 14 V V V (Yl V V (Za 15 V V V (Zg V tf_95_1 V (Zq V V (Zm (i := 0) V Wh V V V V V (Ud V) V (Vq (Zb (Zf (Zc (Za 4 V V V (Ze V V (Vq (Zb (Ya (Yg V V (Vx _) (Vw V) (.inl ⟨Classical.not_not.1 g8, V, V⟩))))))))))))))))
 ·exact Zr V (Zf (Zc (Za 4 V V V (Ze V V (Vq (Zb (Ya (Yg V V (Vx _) (Vr _) (.inr ⟨g8, V, V⟩)))))))))
theorem deeper_c (b : Nat) (L : List Tok) (p : PS) (h1 : 0 ≤ p.lv) (h2 : p.lv ≤ 1000) : MCall Tryz.prog 104 [.ptr b 0] (.loc b (psC L p)) (.tup []) (.loc b (psC L (deeperP L p))) := by
 have HN := next_c b L { p with lv := p.lv + 1 }
 have HF := fail_c b L { p with lv := p.lv + 1 } 111 (nxt L { p with lv := p.lv + 1 }).a
 obtain ⟨t, ht⟩ : ∃ t, nxt L { p with lv := p.lv + 1 } = t := ⟨_, rfl⟩
 obtain ⟨r, hr⟩ : ∃ r, deeperP L p = r := ⟨_, rfl⟩
 have hr0 := hr
 unfold deeperP at hr
 rw [ht] at HN HF hr
 rw [hr0]
 obtain ⟨a, lv, e0, wh0⟩ := p
 obtain ⟨tk, tt, tn, ta⟩ := t
 simp only [psC, Tok.av] at HN HF hr h1 h2 ⊢
 refine Zu Tryz.func104 V (by kernel_rfl) V (Ud V) ?_
 refine Yf (Zf (Zc (Za 2 V V V (Zd V V (Za 3 V V V (Yl V V (Za 4 V V V (Zg V tf_95_2 V (Za 5 V V V (Zl (i := 0) V Xf V V V (Za 6 V V V (Yt V V V (Uh _ (by omega)) ?_))))))))))))
 refine Za 7 V V V (Yl V V (Za 8 V V V (Zg V tf_95_2 V (Zq V V (Zm (i := 0) V Wh V V V V V (Ud V) V (Vq (Zb (Zf (Zc (Za 9 V V V (Zd V V (Za 10 V V V (Yl V V (Za 11 V V V (Zg V tf_95_2 V (Za 12 V V V (Zl (i := 0) V Xf V V V (Za 13 V V V (Wv V V V ?_))))))))))))))))))); intro c13 h13
 refine Vq (Zb ?_)
 rcases Zh h13 with ⟨rfl, g13⟩ | ⟨rfl, g13⟩
 ·refine Zn V (Zt (go_end ?_))
  rw [if_neg (by omega)] at hr; subst hr; exact out_none rfl (Vw rfl) ⟨rfl, rfl⟩
 ·refine Zr V (Zc (Za 14 V V V (Zd V V (Za 15 V V V (Zd V V (Za 16 V V V (Ws (xs := [.tmp 15]) [0] V V V (HN) by1 ?_)))))))
  refine Za 17 V V V (Vb (ft := 3) (fo := 3) V (by kernel_rfl) Xf V V ?_)
  refine Za 18 V V V (Yi (xs := [.tmp 14, .const (.int .i64 111), .tmp 17]) (i := 0) V V V (HF) by1 ?_)
  refine Vq (go_end ?_)
  rw [if_pos (by omega)] at hr; subst hr; exact out_none rfl (Vw rfl) ⟨rfl, rfl⟩
theorem pName_c (b : Nat) (L : List Tok) (hL : L.length ≤ 100000) (n : Nat) (p : PS) (k : POk L n p) : MCall Tryz.prog 84 [.ptr b 0] (.loc b (psC L p)) (.agg (nameP L p).1.av) (.loc b (psC L (nameP L p).2)) := by
 refine Zu Tryz.func84 V (by kernel_rfl) V (Ud V) ?_
 refine Yf (Zf (Zc (Za 2 V V V (Zy (cs' := [_, _, _, _]) V Wj V V ?_)))); intro b2
 refine Vq (Zb (Zf (Zf (Zc (Za 4 V V V (Zd V V (Za 5 V V V (op_mayc (xs := [.tmp 4, .const (.string ⟨#[40]⟩)]) (i := 1) V V V (may_c b L hL p kLP) by1 ?_ ?_))))))))
 ·intro g5
  refine Vq (Zb (Zr V (Zf ?_)))
  have a1 := Xo k g5
  have k1 := a1.ok k
  have a2 := Yo (kind := 5) (s := kE) (by decide) k1
  have k2 := a2.ok k1
  refine Zc (Za 6 V V V (Zd V V (Za 7 V V V (Yi (xs := [.tmp 6, .const (.int .i64 5), .const (.string ⟨#[]⟩)]) (i := 1) V V V (take_c b L hL _ k1.1 5 kE) by1 ?_))))
  refine Za 3 V V V (Zy (cs' := [_, _, _, _]) V Wj V V ?_); intro b3
  refine Zq V V (Zm (cs' := [_, _, _, _]) (i := 0) V Xk V V V V V (Ud V) V (Vq (Zb (Zf (Zc (Za 8 V V V (Zd V V (Za 9 V V V (Yi (xs := [.tmp 8, .const (.int .i64 7), .const (.string ⟨#[41]⟩)]) (i := 2) V V V (take_c b L hL _ k2.1 7 kRP) by1 ?_)))))))))
  refine Vq (Zb (Zf (Zc (Za 10 V V V (Zx (cs' := [_, _, _, _]) (i := 0) V Ys V V V V (Zq V V (Zm (cs' := [_, _, _, _]) (i := 1) V Xk V V V V V (Ud V) V (Vq (Zb (Ya ?_))))))))))
  rw [nameP, if_pos g5]; exact Ym (i := 1) rfl rfl rfl Ys rfl (Vx _) (Vu _ (Vu _ (Vw rfl))) ⟨rfl, rfl⟩
 ·intro g5
  refine Vq (Zb (Zn V (Zt (Zb (Zf (Zc (Za 11 V V V (Zd V V (Za 12 V V V (Yi (xs := [.tmp 11, .const (.int .i64 1), .const (.string ⟨#[]⟩)]) (i := 1) V V V (take_c b L hL _ k.1 1 kE) by1 ?_))))))))))
  refine Zq V V (Zm (cs' := [_, _, _, _]) (i := 0) V Xk V V V V V (Ud V) V (Vq (Zb (Ya ?_))))
  rw [nameP, if_neg g5]; exact Ym (i := 0) rfl rfl rfl Ys rfl (Vx _) (Vu _ (Vw rfl)) ⟨rfl, rfl⟩
theorem uppersL_go {L : List Tok} {f : Nat} {p : PS} {acc : List ByteArray} (h : isP L p kComma = true) : uppersL L (f + 1) p acc = uppersL L f (takeP L (stepP p) 2 kE).2 (acc ++ [(takeP L (stepP p) 2 kE).1.t]) := by rw [uppersL, if_pos h]
theorem uppersL_end {L : List Tok} {f : Nat} {p : PS} {acc : List ByteArray} (h : ¬ isP L p kComma = true) : uppersL L f p acc = (acc, p) := by
 cases f with
 | zero => rfl
 | succ f => rw [uppersL, if_neg h]
theorem uppers_c (b : Nat) (L : List Tok) (hL : L.length ≤ 100000) (n : Nat) (p : PS) (k : POk L n p) : MCall Tryz.prog 83 [.ptr b 0] (.loc b (psC L p)) (.seq 1 (strs (uppersP L p).1)) (.loc b (psC L (uppersP L p).2)) := by
 have a1 := Yo (L := L) (kind := 2) (s := kE) (by decide) k
 have k1 := a1.ok k
 have hE : uppersP L p = uppersL L (L.length + 1) (takeP L p 2 kE).2 [(takeP L p 2 kE).1.t] := rfl
 refine Zu Tryz.func83 V (by kernel_rfl) V (Ud V) ?_
 refine Yf (Zf (Zc (Za 2 V V V (Ze V V (Vq (Zb (Zf (Zc (Za 4 V V V (Zd V V (Za 5 V V V (Yi (xs := [.tmp 4, .const (.int .i64 2), .const (.string ⟨#[]⟩)]) (i := 0) V V V (take_c b L hL _ k.1 2 kE) by1 ?_))))))))))))
 refine Za 6 V V V (Vb (ft := 9) (fo := 1) V (by kernel_rfl) Xd V V ?_)
 refine Za 7 V V V (op_buildSlice_own (xs := [.tmp 6]) Vo V V V V V V (Ud V) ?_); intro u7
 refine Za 3 V V V (Ze V V (Vq (Zb (Zf (Zw ?_)))))
 apply Xp [1, 3, 4, 5, 6, 7, 8, 9, 10, 11, 12, 13, 14, 15] (σ := PS × Nat × List ByteArray × Value) (fun zz => match zz with | (q, f, acc, u) => [(3, .own u 1 (strs acc))]) (fun zz => match zz with | (q, f, acc, u) => [.own 9 1 u, .loc b (psC L q)]) (fun zz => match zz with | (q, f, acc, u) => POk L n q ∧ L.length - q.at_ < f ∧ acc.length ≤ q.at_ + 1 ∧ uppersP L p = uppersL L f q acc) (fun zz => match zz with | (q, f, acc, u) => f) (((takeP L p 2 kE).2, L.length + 1, [(takeP L p 2 kE).1.t], u7))
 ·repeat' (first | exact Ug | apply Ue rfl | apply Uf rfl)
 ·exact ⟨k1, by omega, by simp, hE⟩
 ·exact by4
 ·exact by3
 rintro ⟨q, f, acc, u⟩ hI
 try dsimp only [List.cons_append, List.nil_append] at hI ⊢
 obtain ⟨h1, h2, h3, hu⟩ := hI
 have hq1 := h1.1
 have hle : (strs acc).length ≤ 200000 := by rw [Xy]; omega
 refine Zf (Zf (Zc (Za 8 V V V (Zd V V (Za 9 V V V (op_mayc (xs := [.tmp 8, .const (.string ⟨#[44]⟩)]) (i := 1) V V V (may_c b L hL q kComma) by1 ?_ ?_))))))
 ·intro g9
  refine Vq (Zb (Zr V (Zt (Zb (Zw ?_)))))
  obtain ⟨f, rfl⟩ : ∃ f', f = f' + 1 := ⟨f - 1, by omega⟩
  rw [uppersL_go g9] at hu
  have b1 := Xo h1 g9
  have l1 := b1.ok h1
  have b2 := Yo (kind := 2) (s := kE) (by decide) l1
  have l2 := b2.ok l1
  have b3 : (stepP q).at_ ≤ _ := b2.1
  have b4 : (stepP q).at_ = q.at_ + 1 := rfl
  have b5 := (is_lt g9).2
  have HT := take_c b L hL _ l1.1 2 kE
  obtain ⟨⟨t2, q2⟩, e2⟩ : ∃ r, takeP L (stepP q) 2 kE = r := ⟨_, rfl⟩
  rw [e2] at HT hu l2 b3
  simp only [Tok.av] at HT hu l2 b3
  refine Zc (Za 10 V V V (Zd V V (Za 11 V V V (Zd V V (Za 12 V V V (Yi (xs := [.tmp 11, .const (.int .i64 2), .const (.string ⟨#[]⟩)]) (i := 1) V V V (HT) by1 ?_))))))
  refine Za 13 V V V (Vb (ft := 9) (fo := 1) V (by kernel_rfl) Xd V V ?_)
  refine Za 14 V V V (Yb (xs := [.tmp 13]) Vo V V V V V V (Ud V) (Za 15 V V V (Xg (i := 0) Vo V V V V (.seq _ _) by6 ?_)))
  intro u15
  refine Za 3 V V V (Ze V V (Vq (Yn (Yv ?_))))
  refine ⟨(q2, f, acc ++ [t2.t], u15), ⟨l2, (by show L.length - q2.at_ < f; omega), (by show (acc ++ [t2.t]).length ≤ q2.at_ + 1; rw [List.length_append]; simp; omega), hu⟩, Nat.lt_succ_self f, Ua V (Uc (by simp [strs, AV.cells])) by4, by3⟩
 ·intro g9
  refine Vq (Zb (Zn V (Yy (Xa (Xs (Yz (Zb (Zf (Zc (Za 16 V V V (Zd V V (Za 2 V V V (Ze V V (Vq (Zb (Ya ?_))))))))))))))))
  rw [uppersL_end g9] at hu; rw [hu]; exact Yg rfl rfl (Le.own_seq rfl) (Vu _ (Vr _)) ⟨rfl, rfl⟩
theorem starts_c (b : Nat) (L : List Tok) (p : PS) (what : Int) : KBCall Tryz.prog 81 [.ptr b 0, .val (.int .i64 what)] [.loc b (psC L p)] (startsP L what p) := by
 have HN := next_c b L p
 have H1 := is_p b L p kLP
 have H2 := is_p b L p kUn
 have H3 := is_p b L p kCase
 unfold startsP
 generalize isP L p kLP = x1 at *
 generalize isP L p kUn = x2 at *
 generalize isP L p kCase = x3 at *
 obtain ⟨⟨tk, tt, tn, ta⟩, ht⟩ : ∃ t, nxt L p = t := ⟨_, rfl⟩
 rw [ht] at HN ⊢
 simp only [Tok.av] at HN ⊢
 refine Zu Tryz.func81 V (by kernel_rfl) V (Ud V) ?_
 refine Yf (Zf (Zc (Za 4 V V V (Ze V V (Vq (Zb (Zf (Zc (Za 6 V V V (Zd V V (Za 7 V V V (Ws (xs := [.tmp 6]) [0] V V V (HN) by1 ?_))))))))))))
 refine Za 8 V V V (Vb (ft := 3) (fo := 0) V (by kernel_rfl) Xf V V ?_)
 refine Za 5 V V V (Ze V V (Vq (Zb (Zf (Zf (Xj 18 (tk = 1 ∨ tk = 2 ∨ x1 = true) ?_ _ _ V ?_))))))
 ·skip
  refine Za 9 V V V (Zd V V (Za 10 V V V (Yw V V V ?_))); intro c10 h10
  refine Za 11 V V V (Zd V V ?_)
  rcases Zh h10 with ⟨rfl, g10⟩ | ⟨rfl, g10⟩
  ·skip
   refine Zk 12 V V V V V (Zd V V (Zk 13 V V V V V (Yw V V V ?_))); intro c13 h13
   refine Za 14 V V V (Zo V V V (Za 15 V V V (Zd V V ?_)))
   rcases Zh h13 with ⟨rfl, g13⟩ | ⟨rfl, g13⟩
   ·skip
    refine Zk 16 V V V V V (Zd V V (Zk 17 V V V V V (op_callkb (xs := [.tmp 16, .const (.string ⟨#[40]⟩)]) [0] V V V (H1) by1 ?_))); intro c17 h17
    refine Za 18 V V V (Zo V V V (Vq (Ub V ?_ by5 by3)))
    clear HN H1 H2 H3; first | (simp_all; done) | grind
   ·skip
    refine Zi 16 V V V V V (Zi 17 V V V V V (Za 18 V V V (Zo V V V (Vq (Ub V ?_ by5 by3)))))
    clear HN H1 H2 H3; first | (simp_all; done) | grind
  ·skip
   refine Zi 12 V V V V V (Zi 13 V V V V V (Za 14 V V V (Zo V V V (Za 15 V V V (Zd V V (Zi 16 V V V V V (Zi 17 V V V V V (Za 18 V V V (Zo V V V (Vq (Ub V ?_ by5 by3)))))))))))
   clear HN H1 H2 H3; first | (simp_all; done) | grind
 intro c18 h18
 refine Zb ?_
 rcases Zh h18 with ⟨rfl, g18⟩ | ⟨rfl, g18⟩
 ·refine Zn V (Zt (Zb (Zf (Xj 4 ((1 ≤ what ∧ tk = 3) ∨ (what = 1 ∧ x2 = true) ∨ (what = 2 ∧ (tk = 4 ∨ x3 = true))) ?_ _ _ V ?_))))
  ·skip
   refine Za 19 V V V (Zd V V (Za 20 V V V (Wm V V V ?_))); intro c20 h20
   refine Za 21 V V V (Zd V V ?_)
   rcases Zh h20 with ⟨rfl, g20⟩ | ⟨rfl, g20⟩
   ·skip
    refine Zi 22 V V V V V (Zi 23 V V V V V (Za 24 V V V (Zo V V V (Za 25 V V V (Zd V V (Zk 26 V V V V V (Zd V V (Zk 27 V V V V V (Yw V V V ?_))))))))); intro c27 h27
    refine Zk 28 V V V V V (Zd V V ?_)
    rcases Zh h27 with ⟨rfl, g27⟩ | ⟨rfl, g27⟩
    ·skip
     refine Zi 29 V V V V V (Zi 30 V V V V V (Zk 31 V V V V V (Zo V V V (Za 32 V V V (Zo V V V (Za 33 V V V (Zd V V (Zk 34 V V V V V (Zd V V (Zk 35 V V V V V (Yw V V V ?_))))))))))); intro c35 h35
     refine Zk 36 V V V V V (Zd V V ?_)
     rcases Zh h35 with ⟨rfl, g35⟩ | ⟨rfl, g35⟩
     ·skip
      refine Zi 37 V V V V V (Zi 38 V V V V V (Zi 39 V V V V V (Yr 40 V V V V V (Yr 41 V V V V V (Zi 42 V V V V V (Zk 43 V V V V V (Zo V V V (Za 44 V V V (Zo V V V (Za 4 V V V (Ze V V (Vq (Ub V ?_ by5 by3)))))))))))))
      clear HN H1 H2 H3; first | (simp_all; done) | grind
     ·skip
      refine Zk 37 V V V V V (Zd V V (Zk 38 V V V V V (Yw V V V ?_))); intro c38 h38
      refine Zk 39 V V V V V (Zd V V ?_)
      rcases Zh h38 with ⟨rfl, g38⟩ | ⟨rfl, g38⟩
      ·skip
       refine Zk 40 V V V V V (Zd V V (Zk 41 V V V V V (op_callkb (xs := [.tmp 40, .const (.string ⟨#[99, 97, 115, 101]⟩)]) [0] V V V (H3) by1 ?_))); intro c41 h41
       refine Zk 42 V V V V V (Zo V V V (Zk 43 V V V V V (Zo V V V (Za 44 V V V (Zo V V V (Za 4 V V V (Ze V V (Vq (Ub V ?_ by5 by3)))))))))
       clear HN H1 H2 H3; first | (simp_all; done) | grind
      ·skip
       refine Zi 40 V V V V V (Zi 41 V V V V V (Zk 42 V V V V V (Zo V V V (Zk 43 V V V V V (Zo V V V (Za 44 V V V (Zo V V V (Za 4 V V V (Ze V V (Vq (Ub V ?_ by5 by3)))))))))))
       clear HN H1 H2 H3; first | (simp_all; done) | grind
    ·skip
     refine Zk 29 V V V V V (Zd V V (Zk 30 V V V V V (op_callkb (xs := [.tmp 29, .const (.string ⟨#[95]⟩)]) [0] V V V (H2) by1 ?_))); intro c30 h30
     refine Zk 31 V V V V V (Zo V V V (Za 32 V V V (Zo V V V (Za 33 V V V (Zd V V ?_)))))
     rcases Zh h30 with ⟨rfl, g30⟩ | ⟨rfl, g30⟩
     ·skip
      refine Zk 34 V V V V V (Zd V V (Zk 35 V V V V V (Yw V V V ?_))); intro c35 h35
      refine Zk 36 V V V V V (Zd V V ?_)
      rcases Zh h35 with ⟨rfl, g35⟩ | ⟨rfl, g35⟩
      ·skip
       refine Zi 37 V V V V V (Zi 38 V V V V V (Zi 39 V V V V V (Yr 40 V V V V V (Yr 41 V V V V V (Zi 42 V V V V V (Zk 43 V V V V V (Zo V V V (Za 44 V V V (Zo V V V (Za 4 V V V (Ze V V (Vq (Ub V ?_ by5 by3)))))))))))))
       clear HN H1 H2 H3; first | (simp_all; done) | grind
      ·skip
       refine Zk 37 V V V V V (Zd V V (Zk 38 V V V V V (Yw V V V ?_))); intro c38 h38
       refine Zk 39 V V V V V (Zd V V ?_)
       rcases Zh h38 with ⟨rfl, g38⟩ | ⟨rfl, g38⟩
       ·skip
        refine Zk 40 V V V V V (Zd V V (Zk 41 V V V V V (op_callkb (xs := [.tmp 40, .const (.string ⟨#[99, 97, 115, 101]⟩)]) [0] V V V (H3) by1 ?_))); intro c41 h41
        refine Zk 42 V V V V V (Zo V V V (Zk 43 V V V V V (Zo V V V (Za 44 V V V (Zo V V V (Za 4 V V V (Ze V V (Vq (Ub V ?_ by5 by3)))))))))
        clear HN H1 H2 H3; first | (simp_all; done) | grind
       ·skip
        refine Zi 40 V V V V V (Zi 41 V V V V V (Zk 42 V V V V V (Zo V V V (Zk 43 V V V V V (Zo V V V (Za 44 V V V (Zo V V V (Za 4 V V V (Ze V V (Vq (Ub V ?_ by5 by3)))))))))))
        clear HN H1 H2 H3; first | (simp_all; done) | grind
     ·skip
      refine Zi 34 V V V V V (Zi 35 V V V V V (Zi 36 V V V V V (Yr 37 V V V V V (Yr 38 V V V V V (Yr 39 V V V V V (Yr 40 V V V V V (Yr 41 V V V V V (Yr 42 V V V V V (Zi 43 V V V V V (Za 44 V V V (Zo V V V (Za 4 V V V (Ze V V ?_)))))))))))))
      refine Vq (Ub V ?_ by5 by3)
      clear HN H1 H2 H3; first | (simp_all; done) | grind
   ·skip
    refine Zk 22 V V V V V (Zd V V (Zk 23 V V V V V (Yw V V V ?_))); intro c23 h23
    refine Za 24 V V V (Zo V V V (Za 25 V V V (Zd V V ?_)))
    rcases Zh h23 with ⟨rfl, g23⟩ | ⟨rfl, g23⟩
    ·skip
     refine Zk 26 V V V V V (Zd V V (Zk 27 V V V V V (Yw V V V ?_))); intro c27 h27
     refine Zk 28 V V V V V (Zd V V ?_)
     rcases Zh h27 with ⟨rfl, g27⟩ | ⟨rfl, g27⟩
     ·skip
      refine Zi 29 V V V V V (Zi 30 V V V V V (Zk 31 V V V V V (Zo V V V (Za 32 V V V (Zo V V V (Za 33 V V V (Zd V V (Zk 34 V V V V V (Zd V V (Zk 35 V V V V V (Yw V V V ?_))))))))))); intro c35 h35
      refine Zk 36 V V V V V (Zd V V ?_)
      rcases Zh h35 with ⟨rfl, g35⟩ | ⟨rfl, g35⟩
      ·skip
       refine Zi 37 V V V V V (Zi 38 V V V V V (Zi 39 V V V V V (Yr 40 V V V V V (Yr 41 V V V V V (Zi 42 V V V V V (Zk 43 V V V V V (Zo V V V (Za 44 V V V (Zo V V V (Za 4 V V V (Ze V V (Vq (Ub V ?_ by5 by3)))))))))))))
       clear HN H1 H2 H3; first | (simp_all; done) | grind
      ·skip
       refine Zk 37 V V V V V (Zd V V (Zk 38 V V V V V (Yw V V V ?_))); intro c38 h38
       refine Zk 39 V V V V V (Zd V V ?_)
       rcases Zh h38 with ⟨rfl, g38⟩ | ⟨rfl, g38⟩
       ·skip
        refine Zk 40 V V V V V (Zd V V (Zk 41 V V V V V (op_callkb (xs := [.tmp 40, .const (.string ⟨#[99, 97, 115, 101]⟩)]) [0] V V V (H3) by1 ?_))); intro c41 h41
        refine Zk 42 V V V V V (Zo V V V (Zk 43 V V V V V (Zo V V V (Za 44 V V V (Zo V V V (Za 4 V V V (Ze V V (Vq (Ub V ?_ by5 by3)))))))))
        clear HN H1 H2 H3; first | (simp_all; done) | grind
       ·skip
        refine Zi 40 V V V V V (Zi 41 V V V V V (Zk 42 V V V V V (Zo V V V (Zk 43 V V V V V (Zo V V V (Za 44 V V V (Zo V V V (Za 4 V V V (Ze V V (Vq (Ub V ?_ by5 by3)))))))))))
        clear HN H1 H2 H3; first | (simp_all; done) | grind
     ·skip
      refine Zk 29 V V V V V (Zd V V (Zk 30 V V V V V (op_callkb (xs := [.tmp 29, .const (.string ⟨#[95]⟩)]) [0] V V V (H2) by1 ?_))); intro c30 h30
      refine Zk 31 V V V V V (Zo V V V (Za 32 V V V (Zo V V V (Za 33 V V V (Zd V V ?_)))))
      rcases Zh h30 with ⟨rfl, g30⟩ | ⟨rfl, g30⟩
      ·skip
       refine Zk 34 V V V V V (Zd V V (Zk 35 V V V V V (Yw V V V ?_))); intro c35 h35
       refine Zk 36 V V V V V (Zd V V ?_)
       rcases Zh h35 with ⟨rfl, g35⟩ | ⟨rfl, g35⟩
       ·skip
        refine Zi 37 V V V V V (Zi 38 V V V V V (Zi 39 V V V V V (Yr 40 V V V V V (Yr 41 V V V V V (Zi 42 V V V V V (Zk 43 V V V V V (Zo V V V (Za 44 V V V (Zo V V V (Za 4 V V V (Ze V V (Vq (Ub V ?_ by5 by3)))))))))))))
        clear HN H1 H2 H3; first | (simp_all; done) | grind
       ·skip
        refine Zk 37 V V V V V (Zd V V (Zk 38 V V V V V (Yw V V V ?_))); intro c38 h38
        refine Zk 39 V V V V V (Zd V V ?_)
        rcases Zh h38 with ⟨rfl, g38⟩ | ⟨rfl, g38⟩
        ·skip
         refine Zk 40 V V V V V (Zd V V (Zk 41 V V V V V (op_callkb (xs := [.tmp 40, .const (.string ⟨#[99, 97, 115, 101]⟩)]) [0] V V V (H3) by1 ?_))); intro c41 h41
         refine Zk 42 V V V V V (Zo V V V (Zk 43 V V V V V (Zo V V V (Za 44 V V V (Zo V V V (Za 4 V V V (Ze V V (Vq (Ub V ?_ by5 by3)))))))))
         clear HN H1 H2 H3; first | (simp_all; done) | grind
        ·skip
         refine Zi 40 V V V V V (Zi 41 V V V V V (Zk 42 V V V V V (Zo V V V (Zk 43 V V V V V (Zo V V V (Za 44 V V V (Zo V V V (Za 4 V V V (Ze V V (Vq (Ub V ?_ by5 by3)))))))))))
         clear HN H1 H2 H3; first | (simp_all; done) | grind
      ·skip
       refine Zi 34 V V V V V (Zi 35 V V V V V (Zi 36 V V V V V (Yr 37 V V V V V (Yr 38 V V V V V (Yr 39 V V V V V (Yr 40 V V V V V (Yr 41 V V V V V (Yr 42 V V V V V (Zi 43 V V V V V (Za 44 V V V (Zo V V V (Za 4 V V V (Ze V V ?_)))))))))))))
       refine Vq (Ub V ?_ by5 by3)
       clear HN H1 H2 H3; first | (simp_all; done) | grind
    ·skip
     refine Zi 26 V V V V V (Zi 27 V V V V V (Zi 28 V V V V V (Yr 29 V V V V V (Yr 30 V V V V V (Zi 31 V V V V V (Za 32 V V V (Zo V V V (Za 33 V V V (Zd V V (Zi 34 V V V V V (Zi 35 V V V V V (Zi 36 V V V V V (Yr 37 V V V V V ?_)))))))))))))
     refine Yr 38 V V V V V (Yr 39 V V V V V (Yr 40 V V V V V (Yr 41 V V V V V (Yr 42 V V V V V (Zi 43 V V V V V (Za 44 V V V (Zo V V V (Za 4 V V V (Ze V V (Vq (Ub V ?_ by5 by3)))))))))))
     clear HN H1 H2 H3; first | (simp_all; done) | grind
  intro c4 h4
  refine Zb (Ya ?_)
  exact Yg V V (Vx _) (Vr _) ⟨⟨_, by clear HN H1 H2 H3; grind, V⟩, V⟩
 ·refine Zr V (Zf (Zc (Za 4 V V V (Ze V V (Vq (Zb (Ya ?_)))))))
  exact Yg V V (Vx _) (Vr _) ⟨⟨_, by clear HN H1 H2 H3; grind, V⟩, V⟩
theorem typesL_go {L : List Tok} {T : PS → Ty × PS} {f : Nat} {p : PS} {acc : List Ty} (h : startsP L 0 p) : typesL L T (f + 1) p acc = typesL L T f (atypeG L T p).2 (acc ++ [(atypeG L T p).1]) := by rw [typesL, if_pos h]
theorem typesL_end {L : List Tok} {T : PS → Ty × PS} {f : Nat} {p : PS} {acc : List Ty} (h : ¬ startsP L 0 p) : typesL L T f p acc = (acc, p) := by
 cases f with
 | zero => rfl
 | succ f => rw [typesL, if_neg h]
abbrev zTyp : List AV := [.val (.int .i64 0), .val (.string kE), .val (.int .i64 0), .val (.slice none 0 0)]
def TyC (b : Nat) (L : List Tok) (n : Nat) (T : PS → Ty × PS) : Prop := ∀ q, POk L n q → MCall Tryz.prog 85 [.ptr b 0] (.loc b (psC L q)) (.agg (T q).1.cells) (.loc b (psC L (T q).2))
theorem atype_c (b : Nat) (L : List Tok) (hL : L.length ≤ 100000) (n : Nat) (T : PS → Ty × PS) (HT : TyC b L n T) (HA : ∀ q, POk L n q → Adv L q (T q).2) (p : PS) (k : POk L n p) : MCall Tryz.prog 82 [.ptr b 0] (.loc b (psC L p)) (.agg (atypeG L T p).1.cells) (.loc b (psC L (atypeG L T p).2)) := by
 have HN := next_c b L p
 have hp := k.1
 have a1 := Yo (L := L) (kind := 7) (s := kLP) (by decide) k
 have k1 := a1.ok k
 obtain ⟨t, ht⟩ : ∃ t, nxt L p = t := ⟨_, rfl⟩
 obtain ⟨r, hr⟩ : ∃ r, atypeG L T p = r := ⟨_, rfl⟩
 have hr0 := hr
 unfold atypeG at hr
 rw [ht] at HN hr
 rw [hr0]
 obtain ⟨tk, tt, tn, ta⟩ := t
 simp only [Tok.av] at HN hr
 refine Zu Tryz.func82 V (by kernel_rfl) V (Ud V) ?_
 refine Yf (Zf (Zc (Za 2 V V V (Zy (cs' := [_, _, _, _]) V tz_25 V V ?_)))); intro b2
 refine Vq (Zb (Zf (Zc (Za 5 V V V (Zd V V (Za 6 V V V (Ws (xs := [.tmp 5]) [1] V V V (HN) by1 ?_)))))))
 refine Za 3 V V V (Zy (cs' := [_, _, _, _]) V Wj V V ?_); intro b3
 refine Zq V V (Zm (cs' := [_, _, _, _]) (i := 0) V Xk V V V V V (Ud V) V (Vq (Zb (Zf (Zf (Zc (Za 7 V V V (Zg V Xe V (Za 8 V V V (Zl (i := 0) V Xf V V V (Za 9 V V V (Yw V V V ?_)))))))))))); intro c9 h9
 refine Vq (Zb ?_)
 rcases Zh h9 with ⟨rfl, g9⟩ | ⟨rfl, g9⟩
 ·refine Zn V (Zt (Zb (Zf (Zf (Zc (Za 20 V V V (Zg V Xe V (Za 21 V V V (Zl (i := 0) V Xf V V V (Za 22 V V V (Yw V V V ?_))))))))))); intro c22 h22
  refine Vq (Zb ?_)
  rcases Zh h22 with ⟨rfl, g22⟩ | ⟨rfl, g22⟩
  ·refine Zn V (Zt (Zb (Zf (Zc (Za 33 V V V (Zd V V (Za 34 V V V (Yi (xs := [.tmp 33, .const (.int .i64 7), .const (.string ⟨#[40]⟩)]) (i := 2) V V V (take_c b L hL p k.1 7 kLP) by1 ?_))))))))
   refine Vq (Zb (Zf (Zf (Zc (Za 35 V V V (Zd V V (Za 36 V V V (op_mayc (xs := [.tmp 35, .const (.string ⟨#[41]⟩)]) (i := 2) V V V (may_c b L hL (takeP L p 7 kLP).2 kRP) by1 ?_ ?_))))))))
   ·intro g36
    refine Vq (Zb (Zr V (Zf (Zc (Za 37 V V V (Yj (ns := [0, 1]) (xs := [.const (.int .i64 3), .const (.string ⟨#[85, 110, 105, 116]⟩)]) V tz_25 V tfl_25 V V V V ?_))))))
    refine Zq V V (Zm (cs' := [_, _, _, _]) (i := 1) V ts_25 V V V V V (Ud V) V (Vq (Zb (Ya ?_))))
    rw [if_neg g9, if_neg g22, if_pos g36] at hr; subst hr; exact Ym (i := 1) rfl rfl rfl Xq rfl by2 (Vu _ (Vu _ (Vw rfl))) ⟨rfl, rfl⟩
   ·intro g36
    refine Vq (Zb (Zn V (Zt (Zb (Zf ?_)))))
    have HT1 := HT _ k1
    have k2 := (HA _ k1).ok k1
    rw [if_neg g9, if_neg g22, if_neg g36] at hr
    obtain ⟨⟨⟨xk, xs, xn, xl⟩, p3⟩, hx⟩ : ∃ r, T (takeP L p 7 kLP).2 = r := ⟨_, rfl⟩
    rw [hx] at HT1 hr k2
    simp only [Ty.cells] at HT1
    refine Zc (Za 38 V V V (Zd V V (Za 39 V V V (Yi (xs := [.tmp 38]) (i := 2) V V V (HT1) by1 ?_))))
    refine Za 4 V V V (Zy (cs' := [_, _, _, _]) V tz_25 V V ?_); intro b4
    refine Zq V V (Zm (cs' := [_, _, _, _]) (i := 0) V ts_25 V V V V V (Ud V) V (Vq (Zb (Zf (Zc (Za 40 V V V (Zd V V (Za 41 V V V (Yi (xs := [.tmp 40, .const (.int .i64 7), .const (.string ⟨#[41]⟩)]) (i := 3) V V V (take_c b L hL _ k2.1 7 kRP) by1 ?_)))))))))
    refine Vq (Zb (Zf (Zc (Za 42 V V V (Zx (cs' := [_, _, _, _]) (i := 0) V Xq V V V V (Zq V V (Zm (cs' := [_, _, _, _]) (i := 2) V ts_25 V V V V V (Ud V) V (Vq (Zb (Ya ?_))))))))))
    subst hr; exact Ym (i := 2) rfl rfl rfl Xq rfl (Vx _) (Vu _ (Vu _ (Vu _ (Vw rfl)))) ⟨rfl, rfl⟩
  ·refine Zr V (Zf (Zc (Za 23 V V V (Zd V V (Za 24 V V V (Yl V V (Za 25 V V V (Zg V tf_95_1 V (Za 26 V V V (Zl (i := 2) V Xf V V V (Za 27 V V V (Yt V V V (Uh _ (by omega)) ?_))))))))))))
   refine Za 28 V V V (Yl V V (Za 29 V V V (Zg V tf_95_1 V (Zq V V (Zm (i := 2) V Wh V V V V V (Ud V) V (Vq (Zb (Zf (Zc (Za 30 V V V (Zg V Xi V (Za 31 V V V (Zl (i := 0) V Xd V V V (Za 32 V V V (Yj (ns := [0, 1]) (xs := [.const (.int .i64 1), .tmp 31]) V tz_25 V tfl_25 V V V V (Zq V V (Zm (cs' := [_, _, _, _]) (i := 1) V ts_25 V V V V V (Ud V) V (Vq (Zb (Ya ?_))))))))))))))))))))
   rw [if_neg g9, if_pos g22] at hr; subst hr; exact Ym (i := 1) rfl rfl rfl Xq rfl by2 (Vu _ (Vu _ (Vw rfl))) ⟨rfl, rfl⟩
 ·refine Zr V (Zf (Zc (Za 10 V V V (Zd V V (Za 11 V V V (Yl V V (Za 12 V V V (Zg V tf_95_1 V (Za 13 V V V (Zl (i := 2) V Xf V V V (Za 14 V V V (Yt V V V (Uh _ (by omega)) ?_))))))))))))
  refine Za 15 V V V (Yl V V (Za 16 V V V (Zg V tf_95_1 V (Zq V V (Zm (i := 2) V Wh V V V V V (Ud V) V (Vq (Zb (Zf (Zc (Za 17 V V V (Zg V Xi V (Za 18 V V V (Zl (i := 0) V Xd V V V (Za 19 V V V (Yj (ns := [0, 1]) (xs := [.const (.int .i64 3), .tmp 18]) V tz_25 V tfl_25 V V V V (Zq V V (Zm (cs' := [_, _, _, _]) (i := 1) V ts_25 V V V V V (Ud V) V (Vq (Zb (Ya ?_))))))))))))))))))))
  rw [if_pos g9] at hr; subst hr; exact Ym (i := 1) rfl rfl rfl Xq rfl by2 (Vu _ (Vu _ (Vw rfl))) ⟨rfl, rfl⟩
theorem Type_err (b : Nat) (L : List Tok) (p : PS) (he : p.e ≠ 0) : MCall Tryz.prog 85 [.ptr b 0] (.loc b (psC L p)) (.agg ty0.cells) (.loc b (psC L p)) := by
 refine Zu Tryz.func85 V (by kernel_rfl) V (Ud V) ?_
 refine Yf (Zf (Zc (Za 2 V V V (Zy (cs' := [_, _, _, _]) V tz_25 V V ?_)))); intro b2
 refine Vq (Zb (Zf (Zf (Zc (Za 5 V V V (Zd V V (Za 6 V V V (Yl V V (Za 7 V V V (Zg V Vn V (Za 8 V V V (Zl (i := 1) V Xf V V V (Za 9 V V V (Xw V V V ?_)))))))))))))); intro c9 h9
 refine Vq (Zb ?_)
 rcases Zh h9 with ⟨rfl, g9⟩ | ⟨rfl, g9⟩
 ·exact absurd he g9
 ·exact Zr V (Zf (Zc (Za 10 V V V (Yj (ns := []) (xs := []) V tz_25 V tfl_25 V V V V (Zq V V (Zm (cs' := [_, _, _, _]) (i := 0) V ts_25 V V V V V (Ud V) V (Vq (Zb (Ya (Ym (i := 0) V V V Xq V by2 (Vu _ (Vr _)) ⟨V, V⟩))))))))))
theorem Type_ok (b : Nat) (L : List Tok) (hL : L.length ≤ 100000) (n : Nat) (T : PS → Ty × PS) (HT : TyC b L n T) (HA : ∀ q, POk L n q → Adv L q (T q).2) (p : PS) (k : POk L (n + 1) p) (he : p.e = 0) : MCall Tryz.prog 85 [.ptr b 0] (.loc b (psC L p)) (.agg (typeR L T (typeH L T (deeperP L p))).1.cells) (.loc b (psC L (typeR L T (typeH L T (deeperP L p))).2)) := by
 have kq := deeper_ok k he
 have HN := next_c b L (deeperP L p)
 have hq0 := kq.1
 have aH := typeH_adv HA kq
 have kH := aH.ok kq
 obtain ⟨t, ht⟩ : ∃ t, nxt L (deeperP L p) = t := ⟨_, rfl⟩
 have hkt : (nxt L (deeperP L p)).k = 2 → (deeperP L p).at_ < L.length := fun e => (Vp (by omega)).2
 have HAT := atype_c b L hL n T HT HA (deeperP L p) kq
 obtain ⟨⟨⟨xk, xs, xn, xl⟩, q1⟩, hx⟩ : ∃ r, typeH L T (deeperP L p) = r := ⟨_, rfl⟩
 have hx0 := hx
 unfold typeH at hx
 rw [hx0] at kH ⊢
 simp only [] at kH
 obtain ⟨r, hr⟩ : ∃ r, typeR L T (Ty.mk xk xs xn xl, q1) = r := ⟨_, rfl⟩
 rw [hr]
 unfold typeR at hr
 simp only [] at hr
 rw [ht] at HN hx hkt
 obtain ⟨tk, tt, tn, ta⟩ := t
 simp only [Tok.av] at HN hx hkt
 refine Zu Tryz.func85 V (by kernel_rfl) V (Ud V) ?_
 refine Yf (Zf (Zc (Za 2 V V V (Zy (cs' := [_, _, _, _]) V tz_25 V V ?_)))); intro b2
 refine Vq (Zb (Zf (Zf (Zc (Za 5 V V V (Zd V V (Za 6 V V V (Yl V V (Za 7 V V V (Zg V Vn V (Za 8 V V V (Zl (i := 1) V Xf V V V (Za 9 V V V (Xw V V V ?_)))))))))))))); intro c9 h9
 refine Vq (Zb ?_)
 rcases Zh h9 with ⟨rfl, g9⟩ | ⟨rfl, g9⟩
 ·refine Zn V (Zt (Zb (Zf (Zc (Za 11 V V V (Zd V V ?_))))))
  refine Za 12 V V V (Yi (xs := [.tmp 11]) (i := 1) V V V (deeper_c b L p k.2.1 (by have := k.2.2.1; omega)) by1 ?_)
  refine Vq (Zb (Zf (Zc (Za 13 V V V (Zd V V (Za 14 V V V (Ws (xs := [.tmp 13]) [1] V V V (HN) by1 ?_)))))))
  refine Za 3 V V V (Zy (cs' := [_, _, _, _]) V Wj V V ?_); intro b3
  refine Zq V V (Zm (cs' := [_, _, _, _]) (i := 0) V Xk V V V V V (Ud V) V (Vq (Zb (Zf (Zc (Za 15 V V V (Yj (ns := []) (xs := []) V tz_25 V tfl_25 V V V V (Za 4 V V V (Zy (cs' := [_, _, _, _]) V tz_25 V V ?_))))))))); intro b4
  refine Zq V V (Zm (cs' := [_, _, _, _]) (i := 0) V ts_25 V V V V V (Ud V) V (Vq (Zb (Zf (Zf (Zc (Za 16 V V V (Zg V Xe V (Za 17 V V V (Zl (i := 1) V Xf V V V (Za 18 V V V (Yw V V V ?_)))))))))))); intro c18 h18
  refine Vq (Zb ?_)
  apply c_joink [1, 3, 5, 6, 7, 8, 9, 10, 11, 12, 13, 14, 15, 16, 17, 18, 19, 20, 21, 22, 23, 24, 25, 26, 27, 28, 29, 30, 31, 32, 33, 34, 35, 36, 37, 38, 39] (σ := Unit) (fun zz => match zz with | z => []) (fun zz => match zz with | z => [.loc b4 (Ty.mk xk xs xn xl).cells, .loc b3 (Tok.mk tk tt tn ta).av, .loc b2 zTyp, .loc b (psC L q1)]) (fun zz => match zz with | z => True)
  ·repeat' (first | exact Ug | apply Ue rfl | apply Uf rfl)
  ·skip
   rcases Zh h18 with ⟨rfl, g18⟩ | ⟨rfl, g18⟩
   ·refine Zn V ?_
    rw [if_neg g18] at hx
    rw [hx] at HAT
    simp only [Ty.cells] at HAT
    refine Zc (Za 38 V V V (Zd V V (Za 39 V V V (Yi (xs := [.tmp 38]) (i := 3) V V V (HAT) by1 ?_))))
    refine Zq V V (Zm (cs' := [_, _, _, _]) (i := 0) V ts_25 V V V V V (Ud V) V (Vq (Yv ?_)))
    first | exact ⟨(), trivial, by4, Vw rfl⟩ | (rw [typesL_end g30] at hu; cases hu; exact ⟨(), trivial, by4, Vv _ (Vz (Vx _) (Vz (Vx _) (Vz (Vx _) (Vz (Le.own _ _ _) (Vy _))))) (Vt _ (Vt _ (Vt _ (Vs _))))⟩)
   ·refine Zr V (Zf ?_)
    rw [if_pos g18] at hx
    have hlt := hkt g18
    have ks := Vf kq hlt
    refine Zc (Za 19 V V V (Zd V V (Za 20 V V V (Yl V V (Za 21 V V V (Zg V tf_95_1 V (Za 22 V V V (Zl (i := 3) V Xf V V V (Za 23 V V V (Yt V V V (Uh _ (by omega)) ?_))))))))))
    refine Za 24 V V V (Yl V V (Za 25 V V V (Zg V tf_95_1 V (Zq V V (Zm (i := 3) V Wh V V V V V (Ud V) V (Vq (Zb (Zf (Zc (Za 26 V V V (Zg V Xi V (Za 27 V V V (Zl (i := 1) V Xd V V V (Za 28 V V V (Yj (ns := [0, 1]) (xs := [.const (.int .i64 3), .tmp 27]) V tz_25 V tfl_25 V V V V (Zq V V (Zm (cs' := [_, _, _, _]) (i := 0) V ts_25 V V V V V (Ud V) V (Vq (Zb (Zw (Xx 25 4 ?_)))))))))))))))))))))
    apply Xp [1, 3, 5, 6, 7, 8, 9, 10, 11, 12, 13, 14, 15, 16, 17, 18, 19, 20, 21, 22, 23, 24, 26, 27, 28, 29, 30, 31, 32, 33, 34, 35, 36, 37, 38, 39] (σ := PS × Nat × List Ty × Value) (fun zz => match zz with | (q, f, acc, u) => []) (fun zz => match zz with | (q, f, acc, u) => [.loc b4 [.val (.int .i64 3), .val (.string tt), .val (.int .i64 0), .own u 4 (Ty.cellss acc)], .loc b3 (Tok.mk tk tt tn ta).av, .loc b2 zTyp, .loc b (psC L q), .own 25 4 u]) (fun zz => match zz with | (q, f, acc, u) => POk L n q ∧ L.length - q.at_ < f ∧ acc.length ≤ q.at_ ∧ (Ty.mk 3 tt 0 (typesL L T f q acc).1, (typesL L T f q acc).2) = ((Ty.mk xk xs xn xl), q1)) (fun zz => match zz with | (q, f, acc, u) => f) ((stepP (deeperP L p), L.length + 1, [], .slice none 0 0))
    ·repeat' (first | exact Ug | apply Ue rfl | apply Uf rfl)
    ·exact ⟨ks.ok kq, by omega, Nat.zero_le _, hx⟩
    ·exact by4
    ·exact (Vv _ (Vz (Vx _) (Vz (Vx _) (Vz (Vx _) (Vz (Le.nilOwn 4) (Vy _))))) (Vt _ (Vt _ (Vw V))))
    rintro ⟨q, f, acc, u⟩ hI
    try dsimp only [List.cons_append, List.nil_append] at hI ⊢
    obtain ⟨h1, h2, h3, hu⟩ := hI
    have hq1 := h1.1
    have hle : (Ty.cellss acc).length ≤ 200000 := by rw [Ty.cellss_len]; omega
    refine Zf (Zf (Zc (Za 29 V V V (Zd V V (Za 30 V V V (op_callkb (xs := [.tmp 29, .const (.int .i64 0)]) [3] V V V (starts_c b L q 0) by1 ?_)))))); intro c30 h30
    refine Vq (Zb ?_)
    rcases Zh h30 with ⟨rfl, g30⟩ | ⟨rfl, g30⟩
    ·refine Zn V (Yy (Xa (Xs (Yz (Yv ?_)))))
     first | exact ⟨(), trivial, by4, Vw rfl⟩ | (rw [typesL_end g30] at hu; cases hu; exact ⟨(), trivial, by4, Vv _ (Vz (Vx _) (Vz (Vx _) (Vz (Vx _) (Vz (Le.own _ _ _) (Vy _))))) (Vt _ (Vt _ (Vt _ (Vs _))))⟩)
    ·refine Zr V (Zt (Zb (Zw ?_)))
     obtain ⟨f, rfl⟩ : ∃ f', f = f' + 1 := ⟨f - 1, by omega⟩
     rw [typesL_go g30] at hu
     have b1 := atype_lt HA h1 g30
     have b2 := atype_adv HA h1
     have l2 := b2.ok h1
     have HA2 := atype_c b L hL n T HT HA q h1
     obtain ⟨⟨⟨yk, ys, yn, yl⟩, q2⟩, e2⟩ : ∃ r, atypeG L T q = r := ⟨_, rfl⟩
     rw [e2] at HA2 hu l2 b1
     simp only [Ty.cells] at HA2
     simp only [] at b1 l2
     have l3 := l2.1
     refine Xu [0, 1, 2, 3, 4, 5, 6, 7] [3, 5, 7] [[], [0], [], [2], [2, 3], [0, 1, 2, 3, 4], [0, 1, 2, 3, 4, 5], [0, 1, 2, 3, 4, 5, 6]] Wk V (Zz 31 (none) (i := 0) V V V V V (Zg V Xr V ⟨V, V⟩) ?_)
     refine Zz 32 (some 0) (i := 1) V V V V V (Zl (i := 0) V Wr V V V ⟨V, V⟩) ?_
     refine Zz 33 (none) (i := 2) V V V V V (Zd V V ⟨V, V⟩) ?_
     refine Xm 3 (i := 3) V V V V V (Yi (xs := [.tmp 33]) (i := 0) V V V (HA2) by1 ⟨_, V, ?_⟩)
     refine Zz 35 (none) (i := 4) V V V V V (Yb (xs := [.tmp 34]) el_23 V V V V V V (Ud V) ⟨V, V⟩) ?_
     refine Xm 4 (i := 5) V V V V V (Xg (i := 0) el_23 V V V V (.seq _ _) by6 (fun u36 => ⟨_, V, ?_⟩))
     refine Zz 37 (none) (i := 6) V V V V V (Zg V Xr V ⟨V, V⟩) ?_
     refine Xm 0 (i := 7) V V V V V (Zm (cs' := [_, _, _, _]) (i := 0) V ts_23 V V V V V (Ud V) V ⟨_, V, ?_⟩)
     show AGo _ _ _ _ _ _ _
     refine Yn (Yv ?_)
     refine ⟨(q2, f, acc ++ [Ty.mk yk ys yn yl], u36), ⟨l2, (by show L.length - q2.at_ < f; omega), (by show (acc ++ [Ty.mk yk ys yn yl]).length ≤ q2.at_; rw [List.length_append]; simp; omega), hu⟩, Nat.lt_succ_self f, by4, (Vv _ (Vz (Vx _) (Vz (Vx _) (Vz (Vx _) (Vz (Uc (by rw [Ty.cellss_app]; rfl)) (Vy _))))) (Vt _ (Vt _ (Vw V))))⟩
  rintro z hI
  try dsimp only [List.cons_append, List.nil_append] at hI ⊢
  refine Zb (Zf (Zf (Zc (Za 40 V V V (Zd V V (Za 41 V V V (op_mayc (xs := [.tmp 40, .const (.string ⟨#[45, 62]⟩)]) (i := 3) V V V (may_c b L hL q1 kArrow) by1 ?_ ?_)))))))
  ·intro g41
   refine Vq (Zb (Zr V ?_))
   have ka := Xo kH g41
   have kz := ka.ok kH
   have HT1 := HT _ kz
   have kw := (HA _ kz).ok kz
   obtain ⟨⟨⟨zk, zs, zn, zl⟩, q3⟩, e3⟩ : ∃ r, T (stepP q1) = r := ⟨_, rfl⟩
   rw [if_pos g41, e3] at hr
   rw [e3] at HT1 kw
   simp only [Ty.cells] at HT1
   simp only [] at kw
   have hb3 := kw.2.1
   have hb4 := kw.2.2.1
   refine Xu [0, 1, 2, 3, 4, 5] [2, 5] [[], [], [1], [0, 1, 2], [0, 1, 2, 3], [0, 1, 2, 3, 4]] Wk V (Zz 42 (some 0) (i := 0) V V V V V (Zx (cs' := [_, _, _, _]) (i := 0) V Xq V V V V ⟨V, V⟩) ?_)
   refine Zz 43 (none) (i := 1) V V V V V (Zd V V ⟨V, V⟩) ?_
   refine Xm 3 (i := 2) V V V V V (Yi (xs := [.tmp 43]) (i := 0) V V V (HT1) by1 ⟨_, V, ?_⟩)
   refine Zz 45 (none) (i := 3) V V V V V (Yb (xs := [.tmp 42, .tmp 44]) el_23 V V V V V V (Ud V) ⟨V, V⟩) ?_
   refine Zz 46 (none) (i := 4) V V V V V (Yj (ns := [0, 1, 3]) (xs := [.const (.int .i64 3), .const (.string ⟨#[45, 62]⟩), .tmp 45]) V tz_25 V tfl_25 V V V V ⟨V, V⟩) ?_
   refine Xm 0 (i := 5) V V V V V (Zm (cs' := [_, _, _, _]) (i := 0) V ts_25 V V V V V (Ud V) V ⟨_, V, ?_⟩)
   show AGo _ _ _ _ _ _ _
   refine Zb (Zf ?_)
   have hb1 := kH.2.1
   have hb2 := kH.2.2.1
   refine Zc (Za 47 V V V (Zd V V (Za 48 V V V (Yl V V (Za 49 V V V (Zg V tf_95_2 V (Za 50 V V V (Zl (i := 3) V Xf V V V (Za 51 V V V (op_sub V V V (Uh _ (by omega)) ?_))))))))))
   refine Za 52 V V V (Yl V V (Za 53 V V V (Zg V tf_95_2 V (Zq V V (Zm (i := 3) V Wh V V V V V (Ud V) V (Vq (Zb (Zf (Zc (Za 54 V V V (Zx (cs' := [_, _, _, _]) (i := 0) V Xq V V V V (Zq V V (Zm (cs' := [_, _, _, _]) (i := 2) V ts_25 V V V V V (Ud V) V (Vq (Zb (Ya ?_))))))))))))))))
   subst hr; exact Ym (i := 2) rfl rfl rfl Xq rfl (Vx _) (Vu _ (Vu _ (Vu _ (Vw rfl)))) ⟨rfl, rfl⟩
  ·intro g41
   refine Vq (Zb (Zn V (Zt (Zb (Zf ?_)))))
   have hb1 := kH.2.1
   have hb2 := kH.2.2.1
   refine Zc (Za 47 V V V (Zd V V (Za 48 V V V (Yl V V (Za 49 V V V (Zg V tf_95_2 V (Za 50 V V V (Zl (i := 3) V Xf V V V (Za 51 V V V (op_sub V V V (Uh _ (by omega)) ?_))))))))))
   refine Za 52 V V V (Yl V V (Za 53 V V V (Zg V tf_95_2 V (Zq V V (Zm (i := 3) V Wh V V V V V (Ud V) V (Vq (Zb (Zf (Zc (Za 54 V V V (Zx (cs' := [_, _, _, _]) (i := 0) V Xq V V V V (Zq V V (Zm (cs' := [_, _, _, _]) (i := 2) V ts_25 V V V V V (Ud V) V (Vq (Zb (Ya ?_))))))))))))))))
   rw [if_neg g41] at hr; subst hr; exact Ym (i := 2) rfl rfl rfl Xq rfl (Vx _) (Vu _ (Vu _ (Vu _ (Vw rfl)))) ⟨rfl, rfl⟩
 ·exact absurd he g9
theorem Type_c (b : Nat) (L : List Tok) (hL : L.length ≤ 100000) : ∀ n, TyC b L n (typeF L n)
 | 0, p, k => Type_err b L p (fun e => by have := k.2.2.2 e; omega)
 | n + 1, p, k => by
  by_cases he : p.e = 0
  ·have h := Type_ok b L hL n (typeF L n) (Type_c b L hL n) (typeF_adv n) p k he
   rw [typeF, if_neg (by rw [he]; simp)]
   exact h
  ·rw [typeF, if_pos he]; exact Type_err b L p he
theorem typeP_c (b : Nat) (L : List Tok) (hL : L.length ≤ 100000) (n : Nat) (p : PS) (k : POk L n p) : MCall Tryz.prog 85 [.ptr b 0] (.loc b (psC L p)) (.agg (typeP L p).1.cells) (.loc b (psC L (typeP L p).2)) := Type_c b L hL 302 p (k.up (by decide))
theorem patsL_go {L : List Tok} {T : PS → Pa × PS} {f : Nat} {p : PS} {acc : List Pa} (h : startsP L 1 p) : patsL L T (f + 1) p acc = patsL L T f (apatG L T p).2 (acc ++ [(apatG L T p).1]) := by rw [patsL, if_pos h]
theorem patsL_end {L : List Tok} {T : PS → Pa × PS} {f : Nat} {p : PS} {acc : List Pa} (h : ¬ startsP L 1 p) : patsL L T f p acc = (acc, p) := by
 cases f with
 | zero => rfl
 | succ f => rw [patsL, if_neg h]
theorem Pa.cellss_app' (a b : List Pa) : Pa.cellss (a ++ b) = Pa.cellss a ++ Pa.cellss b := by simp [Pa.cellss_map]
abbrev zPa : List AV := [.val (.int .i64 0), .val (.string kE), .val (.int .i64 0), .val (.slice none 0 0), .val (.int .i64 0)]
def PaC (b : Nat) (L : List Tok) (n : Nat) (T : PS → Pa × PS) : Prop := ∀ q, POk L n q → MCall Tryz.prog 131 [.ptr b 0] (.loc b (psC L q)) (.agg (T q).1.cells) (.loc b (psC L (T q).2))
theorem apat_c (b : Nat) (L : List Tok) (hL : L.length ≤ 100000) (n : Nat) (T : PS → Pa × PS) (HT : PaC b L n T) (HA : ∀ q, POk L n q → Adv L q (T q).2) (p : PS) (k : POk L n p) : MCall Tryz.prog 134 [.ptr b 0] (.loc b (psC L p)) (.agg (apatG L T p).1.cells) (.loc b (psC L (apatG L T p).2)) := by
 have HN := next_c b L p
 have HI := is_p b L p kUn
 have hp := k.1
 have a1 := Yo (L := L) (kind := 7) (s := kLP) (by decide) k
 have k1 := a1.ok k
 have hkt : (nxt L p).k ≠ 0 → p.at_ < L.length := fun e => (Vp e).2
 have hki : isP L p kUn = true → p.at_ < L.length := fun e => (is_lt e).2
 obtain ⟨t, ht⟩ : ∃ t, nxt L p = t := ⟨_, rfl⟩
 obtain ⟨r, hr⟩ : ∃ r, apatG L T p = r := ⟨_, rfl⟩
 have hr0 := hr
 unfold apatG at hr
 rw [ht] at HN hr hkt
 rw [hr0]
 obtain ⟨tk, tt, tn, ta⟩ := t
 simp only [Tok.av] at HN hr hkt
 refine Zu Tryz.func134 V (by kernel_rfl) V (Ud V) ?_
 refine Yf (Zf (Zc (Za 2 V V V (Zy (cs' := [_, _, _, _, _]) V tz_184 V V ?_)))); intro b2
 refine Vq (Zb (Zf (Zc (Za 5 V V V (Zd V V (Za 6 V V V (Ws (xs := [.tmp 5]) [1] V V V (HN) by1 ?_)))))))
 refine Za 3 V V V (Zy (cs' := [_, _, _, _]) V Wj V V ?_); intro b3
 refine Zq V V (Zm (cs' := [_, _, _, _]) (i := 0) V Xk V V V V V (Ud V) V (Vq (Zb (Zf (Zc (Za 7 V V V (Zg V Ww V (Za 8 V V V (Zl (i := 0) V Xf V V V (Za 9 V V V (Yj (ns := [4]) (xs := [.tmp 8]) V tz_184 V tfl_184 V V V V (Za 4 V V V (Zy (cs' := [_, _, _, _, _]) V tz_184 V V ?_))))))))))))); intro b4
 refine Zq V V (Zm (cs' := [_, _, _, _, _]) (i := 0) V ts_184 V V V V V (Ud V) V (Vq (Zb (Zf ?_))))
 apply c_joink [1, 5, 6, 7, 8, 9, 10, 11, 12, 13, 14, 15, 16, 17, 18, 19, 20, 21, 22, 23, 24, 25, 26, 27, 28, 29, 30, 31, 32, 33, 34, 35, 36, 37, 50, 59] (σ := Int × ByteArray × Int) (fun zz => match zz with | (kk, ss, nn) => []) (fun zz => match zz with | (kk, ss, nn) => [.loc b4 [.val (.int .i64 kk), .val (.string ss), .val (.int .i64 nn), .val (.slice none 0 0), .val (.int .i64 ta)], .loc b3 (Tok.mk tk tt tn ta).av, .loc b2 zPa, .loc b (psC L p)]) (fun zz => match zz with | (kk, ss, nn) => (0 < kk ∧ (Pa.mk kk ss nn [] ta, stepP p) = r ∧ p.at_ < L.length) ∨ (kk = 0 ∧ (if isP L (takeP L p 7 kLP).2 kRP = true then (Pa.mk 3 kUnit 0 [] ta, stepP (takeP L p 7 kLP).2) else ((T (takeP L p 7 kLP).2).1, (takeP L (T (takeP L p 7 kLP).2).2 7 kRP).2)) = r))
 ·repeat' (first | exact Ug | apply Ue rfl | apply Uf rfl)
 ·skip
  refine Zw (Zf (Zc (Za 11 V V V (Zg V Xe V (Za 12 V V V (Zl (i := 1) V Xf V V V (Za 13 V V V (Yw V V V ?_)))))))); intro c13 h13
  refine Za 10 V V V (Ze V V (Vq (Zb ?_)))
  rcases Zh h13 with ⟨rfl, g13⟩ | ⟨rfl, g13⟩
  ·refine Zn V (Zf (Zc (Za 19 V V V (Zg V Xe V (Za 20 V V V (Zl (i := 1) V Xf V V V (Za 21 V V V (Yw V V V ?_)))))))); intro c21 h21
   refine Za 18 V V V (Ze V V (Vq (Zb ?_)))
   rcases Zh h21 with ⟨rfl, g21⟩ | ⟨rfl, g21⟩
   ·refine Zn V (Zf (Zc (Za 27 V V V (Zg V Xe V (Za 28 V V V (Zl (i := 1) V Xf V V V (Za 29 V V V (Yw V V V ?_)))))))); intro c29 h29
    refine Za 26 V V V (Ze V V (Vq (Zb ?_)))
    rcases Zh h29 with ⟨rfl, g29⟩ | ⟨rfl, g29⟩
    ·refine Zn V (Zf (Zc (Za 35 V V V (Zd V V (Za 36 V V V (op_callkb (xs := [.tmp 35, .const (.string ⟨#[95]⟩)]) [3] V V V (HI) by1 ?_)))))); intro c36 h36
     refine Za 34 V V V (Ze V V (Vq (Zb ?_)))
     rcases Zh h36 with ⟨rfl, g36⟩ | ⟨rfl, g36⟩
     ·refine Zn V (Zt (Yn (Yv ?_)))
      first
      | (rw [if_pos g13] at hr; exact ⟨(3, tt, 0), .inl ⟨by decide, hr, hkt (by omega)⟩, by4, Vw rfl⟩)
      | (rw [if_neg g13, if_pos g21] at hr; exact ⟨(2, tt, 0), .inl ⟨by decide, hr, hkt (by omega)⟩, by4, Vw rfl⟩)
      | (rw [if_neg g13, if_neg g21, if_pos g29] at hr; exact ⟨(4, kE, tn), .inl ⟨by decide, hr, hkt (by omega)⟩, by4, Vw rfl⟩)
      | (rw [if_neg g13, if_neg g21, if_neg g29, if_pos g36] at hr; exact ⟨(1, kE, 0), .inl ⟨by decide, hr, hki g36⟩, by4, Vw rfl⟩)
      | (rw [if_neg g13, if_neg g21, if_neg g29, if_neg g36] at hr; exact ⟨(0, kE, 0), .inr ⟨rfl, hr⟩, by4, Vw rfl⟩)
     ·refine Zr V (Zc (Za 37 V V V (Zg V tf_184_0 V (Zq V V (Zm (cs' := [_, _, _, _, _]) (i := 0) V Wh V V V V V (Ud V) V (Vq (Yn (Yv ?_))))))))
      first
      | (rw [if_pos g13] at hr; exact ⟨(3, tt, 0), .inl ⟨by decide, hr, hkt (by omega)⟩, by4, Vw rfl⟩)
      | (rw [if_neg g13, if_pos g21] at hr; exact ⟨(2, tt, 0), .inl ⟨by decide, hr, hkt (by omega)⟩, by4, Vw rfl⟩)
      | (rw [if_neg g13, if_neg g21, if_pos g29] at hr; exact ⟨(4, kE, tn), .inl ⟨by decide, hr, hkt (by omega)⟩, by4, Vw rfl⟩)
      | (rw [if_neg g13, if_neg g21, if_neg g29, if_pos g36] at hr; exact ⟨(1, kE, 0), .inl ⟨by decide, hr, hki g36⟩, by4, Vw rfl⟩)
      | (rw [if_neg g13, if_neg g21, if_neg g29, if_neg g36] at hr; exact ⟨(0, kE, 0), .inr ⟨rfl, hr⟩, by4, Vw rfl⟩)
    ·refine Zr V (Zf (Zc (Za 30 V V V (Zg V tf_184_0 V (Zq V V (Zm (cs' := [_, _, _, _, _]) (i := 0) V Wh V V V V V (Ud V) V (Vq (Zb (Zc (Za 31 V V V (Zg V tf_97_2 V (Za 32 V V V (Zl (i := 1) V ta_2 V V V (Za 33 V V V (Zg V tf_184_2 V (Zq V V (Zm (cs' := [_, _, _, _, _]) (i := 0) V ts_2 V V V V V (Ud V) V (Vq (Yn (Yv ?_))))))))))))))))))))
     first
     | (rw [if_pos g13] at hr; exact ⟨(3, tt, 0), .inl ⟨by decide, hr, hkt (by omega)⟩, by4, Vw rfl⟩)
     | (rw [if_neg g13, if_pos g21] at hr; exact ⟨(2, tt, 0), .inl ⟨by decide, hr, hkt (by omega)⟩, by4, Vw rfl⟩)
     | (rw [if_neg g13, if_neg g21, if_pos g29] at hr; exact ⟨(4, kE, tn), .inl ⟨by decide, hr, hkt (by omega)⟩, by4, Vw rfl⟩)
     | (rw [if_neg g13, if_neg g21, if_neg g29, if_pos g36] at hr; exact ⟨(1, kE, 0), .inl ⟨by decide, hr, hki g36⟩, by4, Vw rfl⟩)
     | (rw [if_neg g13, if_neg g21, if_neg g29, if_neg g36] at hr; exact ⟨(0, kE, 0), .inr ⟨rfl, hr⟩, by4, Vw rfl⟩)
   ·refine Zr V (Zf (Zc (Za 22 V V V (Zg V tf_184_0 V (Zq V V (Zm (cs' := [_, _, _, _, _]) (i := 0) V Wh V V V V V (Ud V) V (Vq (Zb (Zc (Za 23 V V V (Zg V Xi V (Za 24 V V V (Zl (i := 1) V Xd V V V (Za 25 V V V (Zg V tf_184_1 V (Zq V V (Zm (cs' := [_, _, _, _, _]) (i := 0) V ts_9 V V V V V (Ud V) V (Vq (Yn (Yv ?_))))))))))))))))))))
    first
    | (rw [if_pos g13] at hr; exact ⟨(3, tt, 0), .inl ⟨by decide, hr, hkt (by omega)⟩, by4, Vw rfl⟩)
    | (rw [if_neg g13, if_pos g21] at hr; exact ⟨(2, tt, 0), .inl ⟨by decide, hr, hkt (by omega)⟩, by4, Vw rfl⟩)
    | (rw [if_neg g13, if_neg g21, if_pos g29] at hr; exact ⟨(4, kE, tn), .inl ⟨by decide, hr, hkt (by omega)⟩, by4, Vw rfl⟩)
    | (rw [if_neg g13, if_neg g21, if_neg g29, if_pos g36] at hr; exact ⟨(1, kE, 0), .inl ⟨by decide, hr, hki g36⟩, by4, Vw rfl⟩)
    | (rw [if_neg g13, if_neg g21, if_neg g29, if_neg g36] at hr; exact ⟨(0, kE, 0), .inr ⟨rfl, hr⟩, by4, Vw rfl⟩)
  ·refine Zr V (Zf (Zc (Za 14 V V V (Zg V tf_184_0 V (Zq V V (Zm (cs' := [_, _, _, _, _]) (i := 0) V Wh V V V V V (Ud V) V (Vq (Zb (Zc (Za 15 V V V (Zg V Xi V (Za 16 V V V (Zl (i := 1) V Xd V V V (Za 17 V V V (Zg V tf_184_1 V (Zq V V (Zm (cs' := [_, _, _, _, _]) (i := 0) V ts_9 V V V V V (Ud V) V (Vq (Yn (Yv ?_))))))))))))))))))))
   first
   | (rw [if_pos g13] at hr; exact ⟨(3, tt, 0), .inl ⟨by decide, hr, hkt (by omega)⟩, by4, Vw rfl⟩)
   | (rw [if_neg g13, if_pos g21] at hr; exact ⟨(2, tt, 0), .inl ⟨by decide, hr, hkt (by omega)⟩, by4, Vw rfl⟩)
   | (rw [if_neg g13, if_neg g21, if_pos g29] at hr; exact ⟨(4, kE, tn), .inl ⟨by decide, hr, hkt (by omega)⟩, by4, Vw rfl⟩)
   | (rw [if_neg g13, if_neg g21, if_neg g29, if_pos g36] at hr; exact ⟨(1, kE, 0), .inl ⟨by decide, hr, hki g36⟩, by4, Vw rfl⟩)
   | (rw [if_neg g13, if_neg g21, if_neg g29, if_neg g36] at hr; exact ⟨(0, kE, 0), .inr ⟨rfl, hr⟩, by4, Vw rfl⟩)
 rintro ⟨kk, ss, nn⟩ hI
 try dsimp only [List.cons_append, List.nil_append] at hI ⊢
 refine Zb (Zf (Zf (Zc (Za 38 V V V (Zg V tf_184_0 V (Za 39 V V V (Zl (i := 0) V Xf V V V (Za 40 V V V (Wv V V V ?_))))))))); intro c40 h40
 refine Vq (Zb ?_)
 rcases Zh h40 with ⟨rfl, g40⟩ | ⟨rfl, g40⟩
 ·refine Zn V (Zt (Zb (Zf ?_)))
  obtain ⟨_, h2⟩ := hI.resolve_left (fun q => by omega)
  refine Zc (Za 49 V V V (Zd V V (Za 50 V V V (Yi (xs := [.tmp 49, .const (.int .i64 7), .const (.string ⟨#[40]⟩)]) (i := 3) V V V (take_c b L hL p k.1 7 kLP) by1 ?_))))
  refine Vq (Zb (Zf (Zf (Zc (Za 51 V V V (Zd V V (Za 52 V V V (op_mayc (xs := [.tmp 51, .const (.string ⟨#[41]⟩)]) (i := 3) V V V (may_c b L hL (takeP L p 7 kLP).2 kRP) by1 ?_ ?_))))))))
  ·intro g52
   refine Vq (Zb (Zr V (Zf (Zc (Za 53 V V V (Zg V Ww V (Za 54 V V V (Zl (i := 1) V Xf V V V (Za 55 V V V (Yj (ns := [0, 1, 4]) (xs := [.const (.int .i64 3), .const (.string ⟨#[85, 110, 105, 116]⟩), .tmp 54]) V tz_184 V tfl_184 V V V V ?_))))))))))
   refine Zq V V (Zm (cs' := [_, _, _, _, _]) (i := 2) V ts_184 V V V V V (Ud V) V (Vq (Zb (Ya ?_))))
   rw [if_pos g52] at h2; subst h2; exact Ym (i := 2) rfl rfl rfl ta_184 rfl by2 (Vu _ (Vu _ (Vu _ (Vw rfl)))) ⟨rfl, rfl⟩
  ·intro g52
   refine Vq (Zb (Zn V (Zt (Zb (Zf ?_)))))
   have HT1 := HT _ k1
   have k2 := (HA _ k1).ok k1
   rw [if_neg g52] at h2
   obtain ⟨⟨⟨xk, xs, xn, xl, xp⟩, p3⟩, hx⟩ : ∃ r, T (takeP L p 7 kLP).2 = r := ⟨_, rfl⟩
   rw [hx] at HT1 h2 k2
   simp only [Pa.cells] at HT1
   refine Zc (Za 56 V V V (Zd V V (Za 57 V V V (Yi (xs := [.tmp 56]) (i := 3) V V V (HT1) by1 ?_))))
   refine Zq V V (Zm (cs' := [_, _, _, _, _]) (i := 0) V ts_184 V V V V V (Ud V) V (Vq (Zb (Zf (Zc (Za 58 V V V (Zd V V (Za 59 V V V (Yi (xs := [.tmp 58, .const (.int .i64 7), .const (.string ⟨#[41]⟩)]) (i := 3) V V V (take_c b L hL _ k2.1 7 kRP) by1 ?_)))))))))
   refine Vq (Zb (Zf (Zc (Za 60 V V V (Zx (cs' := [_, _, _, _, _]) (i := 0) V ta_184 V V V V (Zq V V (Zm (cs' := [_, _, _, _, _]) (i := 2) V ts_184 V V V V V (Ud V) V (Vq (Zb (Ya ?_))))))))))
   subst h2; exact Ym (i := 2) rfl rfl rfl ta_184 rfl (Vx _) (Vu _ (Vu _ (Vu _ (Vw rfl)))) ⟨rfl, rfl⟩
 ·refine Zr V (Zf ?_)
  obtain ⟨_, h2, h3⟩ := hI.resolve_right (fun q => by omega)
  refine Zc (Za 41 V V V (Zd V V (Za 42 V V V (Yl V V (Za 43 V V V (Zg V tf_95_1 V (Za 44 V V V (Zl (i := 3) V Xf V V V (Za 45 V V V (Yt V V V (Uh _ (by omega)) ?_))))))))))
  refine Za 46 V V V (Yl V V (Za 47 V V V (Zg V tf_95_1 V (Zq V V (Zm (i := 3) V Wh V V V V V (Ud V) V (Vq (Zb (Zf (Zc (Za 48 V V V (Zx (cs' := [_, _, _, _, _]) (i := 0) V ta_184 V V V V (Zq V V (Zm (cs' := [_, _, _, _, _]) (i := 2) V ts_184 V V V V V (Ud V) V (Vq (Zb (Ya ?_))))))))))))))))
  subst h2; exact Ym (i := 2) rfl rfl rfl ta_184 rfl (Le.agg (Vz (Vx _) (Vz (Vx _) (Vz (Vx _) (Vz (Le.nil _) (Vy _)))))) (Vu _ (Vu _ (Vu _ (Vw rfl)))) ⟨rfl, rfl⟩
theorem pat_err (b : Nat) (L : List Tok) (p : PS) (he : p.e ≠ 0) : MCall Tryz.prog 131 [.ptr b 0] (.loc b (psC L p)) (.agg pa0.cells) (.loc b (psC L p)) := by
 refine Zu Tryz.func131 V (by kernel_rfl) V (Ud V) ?_
 refine Yf (Zf (Zc (Za 2 V V V (Zy (cs' := [_, _, _, _, _]) V tz_184 V V ?_)))); intro b2
 refine Vq (Zb (Zf (Zf (Zc (Za 5 V V V (Zd V V (Za 6 V V V (Yl V V (Za 7 V V V (Zg V Vn V (Za 8 V V V (Zl (i := 1) V Xf V V V (Za 9 V V V (Xw V V V ?_)))))))))))))); intro c9 h9
 refine Vq (Zb ?_)
 rcases Zh h9 with ⟨rfl, g9⟩ | ⟨rfl, g9⟩
 ·exact absurd he g9
 ·exact Zr V (Zf (Zc (Za 10 V V V (Yj (ns := []) (xs := []) V tz_184 V tfl_184 V V V V (Zq V V (Zm (cs' := [_, _, _, _, _]) (i := 0) V ts_184 V V V V V (Ud V) V (Vq (Zb (Ya (Ym (i := 0) V V V ta_184 V by2 (Vu _ (Vr _)) ⟨V, V⟩))))))))))
theorem apat_con (b : Nat) (L : List Tok) (hL : L.length ≤ 100000) (n : Nat) (p : PS) (k : POk L n p) (h2 : (nxt L p).k = 2) : MCall Tryz.prog 134 [.ptr b 0] (.loc b (psC L p)) (.agg [.val (.int .i64 3), .val (.string (nxt L p).t), .val (.int .i64 0), .val (.slice none 0 0), .val (.int .i64 (nxt L p).a)]) (.loc b (psC L (stepP p))) := by
 have HN := next_c b L p
 have hp := k.1
 have hlt : p.at_ < L.length := (Vp (by omega)).2
 obtain ⟨t, ht⟩ : ∃ t, nxt L p = t := ⟨_, rfl⟩
 rw [ht] at HN h2 ⊢
 obtain ⟨tk, tt, tn, ta⟩ := t
 simp only [Tok.av] at HN h2 ⊢
 refine Zu Tryz.func134 V (by kernel_rfl) V (Ud V) ?_
 refine Yf (Zf (Zc (Za 2 V V V (Zy (cs' := [_, _, _, _, _]) V tz_184 V V ?_)))); intro b2
 refine Vq (Zb (Zf (Zc (Za 5 V V V (Zd V V (Za 6 V V V (Ws (xs := [.tmp 5]) [1] V V V (HN) by1 ?_)))))))
 refine Za 3 V V V (Zy (cs' := [_, _, _, _]) V Wj V V ?_); intro b3
 refine Zq V V (Zm (cs' := [_, _, _, _]) (i := 0) V Xk V V V V V (Ud V) V (Vq (Zb (Zf (Zc (Za 7 V V V (Zg V Ww V (Za 8 V V V (Zl (i := 0) V Xf V V V (Za 9 V V V (Yj (ns := [4]) (xs := [.tmp 8]) V tz_184 V tfl_184 V V V V (Za 4 V V V (Zy (cs' := [_, _, _, _, _]) V tz_184 V V ?_))))))))))))); intro b4
 refine Zq V V (Zm (cs' := [_, _, _, _, _]) (i := 0) V ts_184 V V V V V (Ud V) V (Vq (Zb (Zf (Zw (Zf (Zc (Za 11 V V V (Zg V Xe V (Za 12 V V V (Zl (i := 1) V Xf V V V (Za 13 V V V (Yw V V V ?_))))))))))))); intro c13 h13
 refine Za 10 V V V (Ze V V (Vq (Zb ?_)))
 rcases Zh h13 with ⟨rfl, g13⟩ | ⟨rfl, g13⟩
 ·exact absurd h2 g13
 ·refine Zr V (Zf (Zc (Za 14 V V V (Zg V tf_184_0 V (Zq V V (Zm (cs' := [_, _, _, _, _]) (i := 0) V Wh V V V V V (Ud V) V (Vq (Zb (Zc (Za 15 V V V (Zg V Xi V (Za 16 V V V (Zl (i := 1) V Xd V V V (Za 17 V V V (Zg V tf_184_1 V (Zq V V (Zm (cs' := [_, _, _, _, _]) (i := 0) V ts_9 V V V V V (Ud V) V (Vq (Yn (Zb (Zf (Zf (Zc (Za 38 V V V (Zg V tf_184_0 V ?_)))))))))))))))))))))))))
  refine Za 39 V V V (Zl (i := 0) V Xf V V V (Za 40 V V V (Wv V V V ?_))); intro c40 h40
  refine Vq (Zb ?_)
  rcases Zh h40 with ⟨rfl, g40⟩ | ⟨rfl, g40⟩
  ·exact absurd g40 (by decide)
  ·refine Zr V (Zf (Zc (Za 41 V V V (Zd V V (Za 42 V V V (Yl V V (Za 43 V V V (Zg V tf_95_1 V (Za 44 V V V (Zl (i := 3) V Xf V V V (Za 45 V V V (Yt V V V (Uh _ (by omega)) ?_))))))))))))
   exact Za 46 V V V (Yl V V (Za 47 V V V (Zg V tf_95_1 V (Zq V V (Zm (i := 3) V Wh V V V V V (Ud V) V (Vq (Zb (Zf (Zc (Za 48 V V V (Zx (cs' := [_, _, _, _, _]) (i := 0) V ta_184 V V V V (Zq V V (Zm (cs' := [_, _, _, _, _]) (i := 2) V ts_184 V V V V V (Ud V) V (Vq (Zb (Ya (Ym (i := 2) V V V ta_184 V (Vx _) (Vu _ (Vu _ (Vu _ (Vw V)))) ⟨V, V⟩)))))))))))))))))
theorem pat_non (b : Nat) (L : List Tok) (hL : L.length ≤ 100000) (n : Nat) (T : PS → Pa × PS) (HT : PaC b L n T) (HA : ∀ q, POk L n q → Adv L q (T q).2) (p : PS) (k : POk L (n + 1) p) (he : p.e = 0) (hk : ¬ (nxt L (deeperP L p)).k = 2) :
    MCall Tryz.prog 131 [.ptr b 0] (.loc b (psC L p)) (.agg (apatG L T (deeperP L p)).1.cells) (.loc b (psC L (decP (apatG L T (deeperP L p)).2))) := by
 have kq := deeper_ok k he
 have HN := next_c b L (deeperP L p)
 have HAT := apat_c b L hL n T HT HA (deeperP L p) kq
 have kt := (apat_adv HA kq).ok kq
 obtain ⟨t, ht⟩ : ∃ t, nxt L (deeperP L p) = t := ⟨_, rfl⟩
 rw [ht] at HN hk
 obtain ⟨tk, tt, tn, ta⟩ := t
 obtain ⟨⟨⟨xk, xs, xn, xl, xp⟩, q1⟩, hx⟩ : ∃ r, apatG L T (deeperP L p) = r := ⟨_, rfl⟩
 rw [hx] at HAT kt ⊢
 simp only [Tok.av, Pa.cells] at HN HAT hk ⊢
 simp only [] at kt
 have hb1 := kt.2.1
 have hb2 := kt.2.2.1
 refine Zu Tryz.func131 V (by kernel_rfl) V (Ud V) ?_
 refine Yf (Zf (Zc (Za 2 V V V (Zy (cs' := [_, _, _, _, _]) V tz_184 V V ?_)))); intro b2
 refine Vq (Zb (Zf (Zf (Zc (Za 5 V V V (Zd V V (Za 6 V V V (Yl V V (Za 7 V V V (Zg V Vn V (Za 8 V V V (Zl (i := 1) V Xf V V V (Za 9 V V V (Xw V V V ?_)))))))))))))); intro c9 h9
 refine Vq (Zb ?_)
 rcases Zh h9 with ⟨rfl, g9⟩ | ⟨rfl, g9⟩
 ·refine Zn V (Zt (Zb (Zf (Zc (Za 11 V V V (Zd V V ?_))))))
  refine Za 12 V V V (Yi (xs := [.tmp 11]) (i := 1) V V V (deeper_c b L p k.2.1 (by have := k.2.2.1; omega)) by1 ?_)
  refine Vq (Zb (Zf (Zc (Za 13 V V V (Zd V V (Za 14 V V V (Ws (xs := [.tmp 13]) [1] V V V (HN) by1 ?_)))))))
  refine Za 15 V V V (Vb (ft := 3) (fo := 0) V (by kernel_rfl) Xf V V ?_)
  refine Za 16 V V V (Yw V V V ?_); intro c16 h16
  refine Za 3 V V V (Ze V V (Vq (Zb (Zf ?_))))
  obtain rfl : c16 = false := by
   cases c16 with
   | false => rfl
   | true => exact absurd (h16.1 rfl) hk
  refine Zc (Za 17 V V V (Zd V V (Za 18 V V V (Yi (xs := [.tmp 17]) (i := 1) V V V (HAT) by1 ?_))))
  refine Za 4 V V V (Zy (cs' := [_, _, _, _, _]) V tz_184 V V ?_); intro b4
  refine Zq V V (Zm (cs' := [_, _, _, _, _]) (i := 0) V ts_184 V V V V V (Ud V) V (Vq (Zb (Zf (Zw ?_)))))
  apply Xl [1, 5, 6, 7, 8, 9, 10, 11, 12, 13, 14, 15, 16, 17, 18, 19, 20, 21, 22, 23, 24, 25, 26, 27, 28, 29, 30] (σ := Unit) (fun zz => match zz with | z => []) (fun zz => match zz with | z => True) (fun zz => match zz with | z => 0) (())
  ·repeat' (first | exact Ug | apply Ue rfl | apply Uf rfl)
  ·exact trivial
  ·exact by4
  rintro z hI
  try dsimp only [List.cons_append, List.nil_append] at hI ⊢
  refine Zf (Zf (Zc (Za 19 V V V (Zd V V (Za 20 V V V (Zd V V (Zi 21 V V V V V (Zi 22 V V V V V (Za 23 V V V (Zo V V V (Vq (Zb (Zn V (Yy (Xa (Xs (Yz (Zb (Zf (Zc (Za 31 V V V (Zd V V (Za 32 V V V (Yl V V ?_))))))))))))))))))))))))
  refine Za 33 V V V (Zg V tf_95_2 V (Za 34 V V V (Zl (i := 2) V Xf V V V (Za 35 V V V (op_sub V V V (Uh _ (by omega)) ?_)))))
  exact Za 36 V V V (Yl V V (Za 37 V V V (Zg V tf_95_2 V (Zq V V (Zm (i := 2) V Wh V V V V V (Ud V) V (Vq (Zb (Zf (Zc (Za 38 V V V (Zx (cs' := [_, _, _, _, _]) (i := 0) V ta_184 V V V V (Zq V V (Zm (cs' := [_, _, _, _, _]) (i := 1) V ts_184 V V V V V (Ud V) V (Vq (Zb (Ya (Ym (i := 1) V V V ta_184 V (Vx _) (Vu _ (Vu _ (Vw V))) ⟨V, V⟩)))))))))))))))))
 ·exact absurd he g9
theorem pat_con (b : Nat) (L : List Tok) (hL : L.length ≤ 100000) (n : Nat) (T : PS → Pa × PS) (HT : PaC b L n T) (HA : ∀ q, POk L n q → Adv L q (T q).2) (p : PS) (k : POk L (n + 1) p) (he : p.e = 0) (hk : (nxt L (deeperP L p)).k = 2) (r : List Pa × PS) (hr : patsL L T (L.length + 1) (stepP (deeperP L p)) [] = r) :
    MCall Tryz.prog 131 [.ptr b 0] (.loc b (psC L p)) (.agg (Pa.mk 3 (nxt L (deeperP L p)).t 0 r.1 (nxt L (deeperP L p)).a).cells) (.loc b (psC L (decP r.2))) := by
 have kq := deeper_ok k he
 have HN := next_c b L (deeperP L p)
 have HAT := apat_con b L hL n (deeperP L p) kq hk
 have hlt : (deeperP L p).at_ < L.length := (Vp (by omega)).2
 have ks := (Vf kq hlt).ok kq
 obtain ⟨t, ht⟩ : ∃ t, nxt L (deeperP L p) = t := ⟨_, rfl⟩
 rw [ht] at HN hk HAT ⊢
 obtain ⟨tk, tt, tn, ta⟩ := t
 simp only [Tok.av] at HN HAT hk ⊢
 refine Zu Tryz.func131 V (by kernel_rfl) V (Ud V) ?_
 refine Yf (Zf (Zc (Za 2 V V V (Zy (cs' := [_, _, _, _, _]) V tz_184 V V ?_)))); intro b2
 refine Vq (Zb (Zf (Zf (Zc (Za 5 V V V (Zd V V (Za 6 V V V (Yl V V (Za 7 V V V (Zg V Vn V (Za 8 V V V (Zl (i := 1) V Xf V V V (Za 9 V V V (Xw V V V ?_)))))))))))))); intro c9 h9
 refine Vq (Zb ?_)
 rcases Zh h9 with ⟨rfl, g9⟩ | ⟨rfl, g9⟩
 ·refine Zn V (Zt (Zb (Zf (Zc (Za 11 V V V (Zd V V ?_))))))
  refine Za 12 V V V (Yi (xs := [.tmp 11]) (i := 1) V V V (deeper_c b L p k.2.1 (by have := k.2.2.1; omega)) by1 ?_)
  refine Vq (Zb (Zf (Zc (Za 13 V V V (Zd V V (Za 14 V V V (Ws (xs := [.tmp 13]) [1] V V V (HN) by1 ?_)))))))
  refine Za 15 V V V (Vb (ft := 3) (fo := 0) V (by kernel_rfl) Xf V V ?_)
  refine Za 16 V V V (Yw V V V ?_); intro c16 h16
  refine Za 3 V V V (Ze V V (Vq (Zb (Zf ?_))))
  obtain rfl : c16 = true := h16.2 hk
  refine Zc (Za 17 V V V (Zd V V (Za 18 V V V (Yi (xs := [.tmp 17]) (i := 1) V V V (HAT) by1 ?_))))
  refine Za 4 V V V (Zy (cs' := [_, _, _, _, _]) V tz_184 V V ?_); intro b4
  refine Zq V V (Zm (cs' := [_, _, _, _, _]) (i := 0) V ts_184 V V V V V (Ud V) V (Vq (Zb (Zf (Zw (Xx 184 5 ?_))))))
  apply Xp [1, 5, 6, 7, 8, 9, 10, 11, 12, 13, 14, 15, 16, 17, 18, 19, 20, 21, 22, 23, 24, 25, 26, 27, 28, 29, 30] (σ := PS × Nat × List Pa × Value) (fun zz => match zz with | (q, f, acc, u) => []) (fun zz => match zz with | (q, f, acc, u) => [.loc b4 [.val (.int .i64 3), .val (.string tt), .val (.int .i64 0), .own u 5 (Pa.cellss acc), .val (.int .i64 ta)], .loc b2 zPa, .loc b (psC L q), .own 184 5 u]) (fun zz => match zz with | (q, f, acc, u) => POk L n q ∧ L.length - q.at_ < f ∧ acc.length ≤ q.at_ ∧ patsL L T f q acc = r) (fun zz => match zz with | (q, f, acc, u) => f) ((stepP (deeperP L p), L.length + 1, [], .slice none 0 0))
  ·repeat' (first | exact Ug | apply Ue rfl | apply Uf rfl)
  ·exact ⟨ks, by omega, Nat.zero_le _, hr⟩
  ·exact by4
  ·exact (Vv _ (Vz (Vx _) (Vz (Vx _) (Vz (Vx _) (Vz (Le.nilOwn 5) (Vy _))))) (Vt _ (Vw V)))
  rintro ⟨q, f, acc, u⟩ hI
  try dsimp only [List.cons_append, List.nil_append] at hI ⊢
  obtain ⟨h1, h2, h3, hu⟩ := hI
  have hq1 := h1.1
  have hb1 := h1.2.1
  have hb2 := h1.2.2.1
  have hle : (Pa.cellss acc).length ≤ 200000 := by rw [Pa.cellss_len]; omega
  refine Zf (Zf (Zc (Za 19 V V V (Zd V V (Za 20 V V V (Zd V V (Zk 21 V V V V V (Zd V V (Zk 22 V V V V V (op_callkb (xs := [.tmp 21, .const (.int .i64 1)]) [2] V V V (starts_c b L q 1) by1 ?_)))))))))); intro c22 h22
  refine Za 23 V V V (Zo V V V (Vq (Zb ?_)))
  rcases Zh h22 with ⟨rfl, g22⟩ | ⟨rfl, g22⟩
  ·refine Zn V (Yy (Xa (Xs (Yz (Zb (Zf (Zc (Za 31 V V V (Zd V V (Za 32 V V V (Yl V V (Za 33 V V V (Zg V tf_95_2 V (Za 34 V V V (Zl (i := 2) V Xf V V V (Za 35 V V V (op_sub V V V (Uh _ (by omega)) ?_)))))))))))))))))
   refine Za 36 V V V (Yl V V (Za 37 V V V (Zg V tf_95_2 V (Zq V V (Zm (i := 2) V Wh V V V V V (Ud V) V (Vq (Zb (Zf (Zc (Za 38 V V V (Zx (cs' := [_, _, _, _, _]) (i := 0) V ta_184 V V V V (Zq V V (Zm (cs' := [_, _, _, _, _]) (i := 1) V ts_184 V V V V V (Ud V) V (Vq (Zb (Ya ?_))))))))))))))))
   rw [patsL_end g22] at hu; subst hu; exact Ym (i := 1) rfl rfl rfl ta_184 rfl (Le.agg (Vz (Vx _) (Vz (Vx _) (Vz (Vx _) (Vz (Le.own _ _ _) (Vy _)))))) (Vu _ (Vu _ (Vt _ (Vs _)))) ⟨rfl, rfl⟩
  ·refine Zr V (Zt (Zb (Zw ?_)))
   obtain ⟨f, rfl⟩ : ∃ f', f = f' + 1 := ⟨f - 1, by omega⟩
   rw [patsL_go g22] at hu
   have b1 := apat_lt HA h1 g22
   have b2 := apat_adv HA h1
   have l2 := b2.ok h1
   have HA2 := apat_c b L hL n T HT HA q h1
   obtain ⟨⟨⟨yk, ys, yn, yl, yp⟩, q2⟩, e2⟩ : ∃ r, apatG L T q = r := ⟨_, rfl⟩
   rw [e2] at HA2 hu l2 b1
   simp only [Pa.cells] at HA2
   simp only [] at b1 l2
   have l3 := l2.1
   refine Xu [0, 1, 2, 3, 4, 5, 6, 7] [3, 5, 7] [[], [0], [], [2], [2, 3], [0, 1, 2, 3, 4], [0, 1, 2, 3, 4, 5], [0, 1, 2, 3, 4, 5, 6]] Wk V (Zz 24 (none) (i := 0) V V V V V (Zg V tf_184_3 V ⟨V, V⟩) ?_)
   refine Zz 25 (some 0) (i := 1) V V V V V (Zl (i := 0) V ta_182 V V V ⟨V, V⟩) ?_
   refine Zz 26 (none) (i := 2) V V V V V (Zd V V ⟨V, V⟩) ?_
   refine Xm 2 (i := 3) V V V V V (Yi (xs := [.tmp 26]) (i := 0) V V V (HA2) by1 ⟨_, V, ?_⟩)
   refine Zz 28 (none) (i := 4) V V V V V (Yb (xs := [.tmp 27]) el_182 V V V V V V (Ud V) ⟨V, V⟩) ?_
   refine Xm 3 (i := 5) V V V V V (Xg (i := 0) el_182 V V V V (.seq _ _) by6 (fun u29 => ⟨_, V, ?_⟩))
   refine Zz 30 (none) (i := 6) V V V V V (Zg V tf_184_3 V ⟨V, V⟩) ?_
   refine Xm 0 (i := 7) V V V V V (Zm (cs' := [_, _, _, _, _]) (i := 0) V ts_182 V V V V V (Ud V) V ⟨_, V, ?_⟩)
   show AGo _ _ _ _ _ _ _
   refine Yn (Yv ?_)
   refine ⟨(q2, f, acc ++ [Pa.mk yk ys yn yl yp], u29), ⟨l2, (by show L.length - q2.at_ < f; omega), (by show (acc ++ [Pa.mk yk ys yn yl yp]).length ≤ q2.at_; rw [List.length_append]; simp; omega), hu⟩, Nat.lt_succ_self f, by4, (Vv _ (Vz (Vx _) (Vz (Vx _) (Vz (Vx _) (Vz (Uc (by rw [Pa.cellss_app']; rfl)) (Vy _))))) (Vt _ (Vw V)))⟩
 ·exact absurd he g9
theorem pat_c (b : Nat) (L : List Tok) (hL : L.length ≤ 100000) : ∀ n, PaC b L n (patF L n)
 | 0, p, k => pat_err b L p (fun e => by have := k.2.2.2 e; omega)
 | n + 1, p, k => by
  by_cases he : p.e = 0
  ·rw [patF, if_neg (by rw [he]; simp)]
   by_cases hk : (nxt L (deeperP L p)).k = 2
   ·rw [if_pos hk]; exact pat_con b L hL n (patF L n) (pat_c b L hL n) (patF_adv n) p k he hk _ rfl
   ·rw [if_neg hk]; exact pat_non b L hL n (patF L n) (pat_c b L hL n) (patF_adv n) p k he hk
  ·rw [patF, if_pos he]; exact pat_err b L p he
theorem patP_c (b : Nat) (L : List Tok) (hL : L.length ≤ 100000) (n : Nat) (p : PS) (k : POk L n p) : MCall Tryz.prog 131 [.ptr b 0] (.loc b (psC L p)) (.agg (patP L p).1.cells) (.loc b (psC L (patP L p).2)) := pat_c b L hL 302 p (k.up (by decide))
end Go.Proofs.YtknodnfbaofngaaGreat
namespace Go.Proofs.YtknodnfbaofngaaGreat
open Go.RowKit
def rowT (i : Nat) : List (List UInt8) := rowsT.getD i []
structure TblAt (w : World) (B : Nat) : Prop where
 row : ∀ i, i < 7 → w.cell? ⟨B + 7, i, none⟩ = some (.slice (some ⟨B + i, 0, none⟩) (rowT i).length (rowT i).length)
 str : ∀ i, i < 7 → ∀ k, k < (rowT i).length → w.cell? ⟨B + i, k, none⟩ = some (.string ⟨((rowT i).getD k []).toArray⟩)
theorem seven {i : Nat} (h : i < 7) : i = 0 ∨ i = 1 ∨ i = 2 ∨ i = 3 ∨ i = 4 ∨ i = 5 ∨ i = 6 := by omega
theorem rowlen (i : Nat) (h : i < 7) : (rowT i).length ≤ 6 := by
 rcases seven h with rfl | rfl | rfl | rfl | rfl | rfl | rfl <;> decide
def missTo (op : List UInt8) (i : Nat) : Prop := ∀ j, j < 7 → j < i → (rowT j).contains op = false
theorem rowT_get {j : Nat} (h : j < rowsT.length) : rowsT[j] = rowT j := by simp [rowT, List.getD, h]
theorem lvl_at {op : List UInt8} {i : Nat} (hi : i < 7) (hm : missTo op i) (hc : (rowT i).contains op = true) : lvl op = i + 1 := by
 unfold lvl
 congr 1
 have hi' : i < rowsT.length := hi
 rw [List.findIdx_eq hi']
 refine ⟨by rw [rowT_get hi']; exact hc, fun j hj => ?_⟩
 have hj' : j < rowsT.length := by omega
 rw [rowT_get hj']
 exact hm j hj' hj
theorem lvl_8 {op : List UInt8} (hm : missTo op 7) : lvl op = 8 := by
 unfold lvl
 have : rowsT.findIdx (fun r => r.contains op) = rowsT.length := by
  rw [List.findIdx_eq_length]
  intro r hr
  obtain ⟨j, hj, rfl⟩ := List.getElem_of_mem hr
  rw [rowT_get hj]
  exact hm j hj hj
 rw [this]; rfl
theorem miss_row {op : List UInt8} {i : Nat} (h : ∀ k, k < (rowT i).length → (rowT i).getD k [] ≠ op) : (rowT i).contains op = false := by
 rw [List.contains_eq_mem, decide_eq_false_iff_not]
 intro hm
 obtain ⟨k, hk, e⟩ := List.getElem_of_mem hm
 exact h k hk (by simp [List.getD, hk, e])
theorem hit_row {op : List UInt8} {i k : Nat} (hk : k < (rowT i).length) (h : (rowT i).getD k [] = op) : (rowT i).contains op = true := by
 rw [List.contains_eq_mem, decide_eq_true_eq]
 have : (rowT i)[k] = op := by simpa [List.getD, hk] using h
 rw [← this]; exact List.getElem_mem hk
theorem rLevel_c (s : ByteArray) (w : World) : Calls Tryz.prog 125 #[.string s] w fun e w' => e = .returned (.int .i64 (lvl s.toList : Nat)) ∧ Below w.heap.size w w' := by
 go_enter Tryz.func125, Tryz.ntmps125
 go_wp2
 go_loopw [4, 5] (fun vi _ wr => ∃ i : Nat, i ≤ 7 ∧ vi = .int .i64 i ∧ missTo s.toList i ∧ TblAt wr w.heap.size ∧ Below w.heap.size w wr) (fun vi _ _ => 7 - (intOf vi).toNat)
 case atStart =>
  refine ⟨0, by omega, V, fun j h hj => by omega, ⟨?_, ?_⟩, ?_⟩
  ·intro i h
   rw [World.cell?_alloc_at _ _ _ _ (by simp only [World.size_alloc])]
   rcases seven h with rfl | rfl | rfl | rfl | rfl | rfl | rfl <;> rfl
  ·intro i h k hk
   rcases seven h with rfl | rfl | rfl | rfl | rfl | rfl | rfl
   all_goals
    have hk6 : k = 0 ∨ k = 1 ∨ k = 2 ∨ k = 3 ∨ k = 4 ∨ k = 5 := by have := rowlen _ h; omega
    rcases hk6 with rfl | rfl | rfl | rfl | rfl | rfl
    all_goals first | (exact absurd hk (by decide)) | skip
    all_goals
     repeat (rw [World.cell?_alloc_past _ _ _ (by simp only [World.size_alloc]; omega)])
     rw [World.cell?_alloc_at _ _ _ _ (by first | rfl | (simp only [World.size_alloc]; done) | (simp only [World.size_alloc]; omega))]
     rfl
  ·exact (((((((((Below.refl _ _).alloc (Nat.le_refl _) _).alloc (by simp) _).alloc (by simp; omega) _).alloc (by simp; omega) _).alloc (by simp; omega) _).alloc (by simp; omega) _).alloc (by simp; omega) _).alloc (by simp; omega) _)
 case round =>
  obtain ⟨i, hi, rfl, hm, hT, hbel⟩ := hrel
  by_cases hi7 : i < 7
  ·have hr := hT.row i hi7
   have hl := rowlen i hi7
   obtain ⟨n, hn⟩ : ∃ n, n = (rowT i).length := ⟨_, rfl⟩
   rw [← hn] at hr hl
   have HN := Lib.hid hn
   have HM := Lib.hid hm
   clear hn hm
   have d1 : decide ((i : Int) < 7) = true := by simp; omega
   go_wp2
   go_loop [5] (fun vk => ∃ k : Nat, k ≤ n ∧ vk = .int .i64 k ∧ ∀ j, j < k → (rowT i).getD j [] ≠ s.toList) (fun vk => n - (intOf vk).toNat)
   case atStart => exact ⟨0, by omega, rfl, fun j hj => by omega⟩
   case round =>
    obtain ⟨k, hk, rfl, hmk⟩ := hrel
    have HMK := Lib.hid hmk
    clear hmk
    by_cases hkn : k < n
    ·have cs := hT.str i hi7 k (by rw [← HN.out]; exact hkn)
     obtain ⟨sk, hsk⟩ : ∃ sk : ByteArray, sk = ⟨((rowT i).getD k []).toArray⟩ := ⟨_, rfl⟩
     have es : sk.toList = (rowT i).getD k [] := by rw [ByteArray.toList_eq, hsk]
     rw [← hsk] at cs
     clear hsk
     have HES := Lib.hid es
     clear es
     by_cases heq : (sk.toList == s.toList) = true
     ·go_wp2
      go_ret
      have h1 : (rowT i).getD k [] = s.toList := by rw [← HES.out]; simpa using heq
      exact ⟨by rw [lvl_at hi7 HM.out (hit_row (by rw [← HN.out]; exact hkn) h1)]; rfl, hbel⟩
     ·have heq' : (sk.toList == s.toList) = false := by simpa using heq
      clear heq
      go_wp2
      go_round
      case rel => exact ⟨k + 1, by omega, by go_num, fun j hj => by
       by_cases e : j = k
       ·subst e; rw [← HES.out]; exact beq_eq_false_iff_ne.1 heq'
       ·exact HMK.out j (by omega)⟩
      case measure => simp [intOf]; omega
    ·go_wp2
     go_roundw
     case rel => exact ⟨i + 1, by omega, by go_num, fun j h hj => by
      by_cases e : j = i
      ·subst e; exact miss_row (fun k' hk' => HMK.out k' (by have := HN.out; omega))
      ·exact HM.out j h (by omega), hT, hbel⟩
     case measure => simp [intOf]; omega
  ·have he : i = 7 := by omega
   subst he
   go_wp2
   go_ret
   exact ⟨by rw [lvl_8 hm]; rfl, hbel⟩
theorem Level_p (s : ByteArray) : PCall Tryz.prog 125 [.val (.string s)] (.val (.int .i64 (lvl s.toList : Nat))) :=
 PCall.of_calls (vs := [.string s]) (enters_of Tryz.func125 (by kernel_rfl) rfl) (fun w => rLevel_c s w)
theorem Level_at (ops : List Tok) (i : Nat) : PCall Tryz.prog 125 [.val (.string ((ops[i]?).getD (tok0 0)).t)] (.val (.int .i64 (lvT ops i : Nat))) := Level_p _
theorem strs_at {ops : List Tok} {i : Nat} (h : i < ops.length) : (strs (ops.map Tok.t))[i]? = some [.val (.string ((ops[i]?).getD (tok0 0)).t)] := by
 simp [strs, List.getElem?_eq_getElem h]
theorem sideN_8 (l : Nat) : ((sideN l : Nat) : Int) = if (l : Int) = 4 then 0 else if (l : Int) < 6 then 2 else 1 := by
 unfold sideN
 repeat' split
 all_goals first | rfl | omega
theorem back_eq {lv : Nat → Nat} {j : Nat} (h : ¬ (0 < j ∧ 4 < lv (j - 1))) : backL lv j = true ↔ (0 < j ∧ lv (j - 1) = 4) := by
 cases j with
 | zero => simp [backL]
 | succ j =>
  simp only [Nat.add_sub_cancel] at h ⊢
  rw [backL, if_neg (fun q => h ⟨Nat.succ_pos j, q⟩)]
  simp
theorem Side_p (l : Nat) : PCall Tryz.prog 126 [.val (.int .i64 (l : Nat))] (.val (.int .i64 (sideN l : Nat))) := by
 rw [sideN_8]
 refine Zu Tryz.func126 V (by kernel_rfl) V (Ud V) ?_
 refine Yf (Zf (Zc (Za 2 V V V (Ze V V (Vq (Zb (Zf (Zf (Zc (Za 3 V V V (Zd V V (Za 4 V V V (Yw V V V ?_))))))))))))); intro c4 h4
 refine Vq (Zb ?_)
 rcases Zh h4 with ⟨rfl, g4⟩ | ⟨rfl, g4⟩
 ·refine Zn V (Zt (Zb (Zf (Zf (Zc (Za 5 V V V (Zd V V (Za 6 V V V (Yq V V V ?_))))))))); intro c6 h6
  refine Vq (Zb ?_)
  rcases Zh h6 with ⟨rfl, g6⟩ | ⟨rfl, g6⟩
  ·exact Zn V (Zt (Zb (Zf (Zc (Za 2 V V V (Ze V V (Vq (Zb (Ya (Yg V V (Vx _) by3 ⟨by rw [if_neg g4, if_neg g6], V⟩))))))))))
  ·exact Zr V (Zf (Zc (Za 2 V V V (Ze V V (Vq (Zb (Ya (Yg V V (Vx _) by3 ⟨by rw [if_neg g4, if_pos g6], V⟩))))))))
 ·exact Zr V (Zf (Zc (Za 2 V V V (Ze V V (Vq (Zb (Ya (Yg V V (Vx _) by3 ⟨by rw [if_pos g4], V⟩))))))))
theorem Clash_p (ops : List Tok) (h : ops.length ≤ 200000) : PCall Tryz.prog 106 [.seq 1 (strs (ops.map Tok.t))] (.val (.int .i64 (clashP ops))) := by
 have hl : (strs (ops.map Tok.t)).length = ops.length := by simp [strs]
 have hC : clashP ops = clashL (lvT ops) (ops.length - 0) 0 := rfl
 generalize clashP ops = r at *
 refine Zu Tryz.func106 V (by kernel_rfl) V (Ud V) ?_
 refine Yf (Zf (Zc (Za 2 V V V (Ze V V (Vq (Zb (Zf (Zf (Zc (Za 3 V V V (Ze V V (Vq (Zb (Zw ?_))))))))))))))
 apply Xl [1, 2, 3, 4, 5, 6, 7, 8, 9, 10, 11, 12, 13, 14, 15, 16, 17, 18, 19, 20, 21, 22, 23, 24, 25, 26, 27, 28, 29, 30, 31, 32, 33, 34, 35, 36, 37, 38, 39, 40, 41] (σ := Nat) (fun zz => match zz with | k => [(3, .val (.int .i64 k))]) (fun zz => match zz with | k => k ≤ ops.length ∧ r = clashL (lvT ops) (ops.length - k) k) (fun zz => match zz with | k => ops.length - k) (0)
 ·repeat' (first | exact Ug | apply Ue rfl | apply Uf rfl)
 ·exact ⟨Nat.zero_le _, hC⟩
 ·exact by4
 rintro k hI
 try dsimp only [List.cons_append, List.nil_append] at hI ⊢
 obtain ⟨h1, hu⟩ := hI
 refine Zf (Zf (Zc (Za 5 V V V (Zd V V (Za 6 V V V (Zd V V ?_))))))
 refine Za 7 V V V (Yx V tu_68 V (.seq _ _) (fun n7 => ?_))
 refine Za 8 V V V (Yq V V V ?_); intro c8 h8
 refine Vq (Zb ?_)
 rcases Zh h8 with ⟨rfl, g8⟩ | ⟨rfl, g8⟩
 ·refine Zn V (Yy (Xa (Xs (Yz (Zb (Zf (Zc (Za 2 V V V (Ze V V (Vq (Zb (Ya ?_))))))))))))
  rw [show ops.length - k = 0 by omega, clashL] at hu; exact Yg rfl rfl (Vx _) by3 ⟨by rw [hu], rfl⟩
 ·refine Zr V (Zt (Zb (Zf (Zw (Zf (Zf ?_))))))
  obtain ⟨d, hd⟩ : ∃ d, ops.length - k = d + 1 := ⟨ops.length - k - 1, by omega⟩
  rw [hd, clashL] at hu
  have hd2 : d = ops.length - (k + 1) := by omega
  rw [hd2] at hu
  refine Zc (Za 11 V V V (Zd V V (Za 12 V V V (Zd V V (Za 13 V V V (Yd V te_68 V (.seq _ _) V V (strs_at (ops := ops) (i := k) (by omega)) ?_))))))
  refine Za 14 V V V (Zp V Xd V V (Za 15 V V V (Yk (xs := [.tmp 14]) V V (Level_at ops k) by1 ?_)))
  refine Za 16 V V V (Xw V V V ?_); intro c16 h16
  refine Vq (Zb ?_)
  rcases Zh h16 with ⟨rfl, g16⟩ | ⟨rfl, g16⟩
  ·refine Zn V (Zt (Zb (Zf (Zc (Za 17 V V V (Zd V V (Za 18 V V V (op_sub V V V (Uh _ (by omega)) ?_))))))))
   refine Za 4 V V V (Ze V V (Vq (Zb (Zf (Zw ?_)))))
   apply Xl [1, 4, 19, 20, 21, 22, 23, 24, 25, 26, 27, 28, 29, 30] (σ := Nat) (fun zz => match zz with | j => [(4, .val (.int .i64 ((j : Int) - 1)))]) (fun zz => match zz with | j => j ≤ k ∧ backL (lvT ops) k = backL (lvT ops) j) (fun zz => match zz with | j => j) (k)
   ·repeat' (first | exact Ug | apply Ue rfl | apply Uf rfl)
   ·exact ⟨Nat.le_refl _, V⟩
   ·exact by4
   rintro j hI
   try dsimp only [List.cons_append, List.nil_append] at hI ⊢
   obtain ⟨h2, hb⟩ := hI
   refine Zf (Zf (Xj 28 (0 < j ∧ 4 < lvT ops (j - 1)) ?_ _ _ V ?_))
   ·skip
    refine Za 19 V V V (Zd V V (Za 20 V V V (Wm V V V ?_))); intro c20 h20
    refine Za 21 V V V (Zd V V ?_)
    rcases Zh h20 with ⟨rfl, g20⟩ | ⟨rfl, g20⟩
    ·skip
     refine Zi 22 V V V V V (Zi 23 V V V V V (Zi 24 V V V V V (Zi 25 V V V V V (Zi 26 V V V V V (Zi 27 V V V V V (Za 28 V V V (Zo V V V (Vq (Ub V ?_ by5 by3)))))))))
     first | (simp_all; done) | (simp_all; omega) | grind
    ·skip
     refine Zk 22 V V V V V (Zd V V (Zk 23 V V V V V (Zd V V ?_)))
     refine Zk 24 V V V V V (Yd (i := (j - 1)) V te_68 V (.seq _ _) V (by first | rfl | omega) (strs_at (ops := ops) (i := j - 1) (by omega)) ?_)
     refine Zk 25 V V V V V (Zp V Xd V V (Zk 26 V V V V V (Yk (xs := [.tmp 25]) V V (Level_at ops (j - 1)) by1 ?_)))
     refine Zk 27 V V V V V (Wv V V V ?_); intro c27 h27
     refine Za 28 V V V (Zo V V V (Vq (Ub V ?_ by5 by3)))
     first | (simp_all; done) | (simp_all; omega) | grind
   intro c28 h28
   refine Zb ?_
   rcases Zh h28 with ⟨rfl, g28⟩ | ⟨rfl, g28⟩
   ·refine Zn V (Yy (Xa (Xs (Yz (Zb (Zf (Xj 40 (0 < j ∧ lvT ops (j - 1) = 4) ?_ _ _ V ?_)))))))
    ·skip
     refine Za 31 V V V (Zd V V (Za 32 V V V (Wm V V V ?_))); intro c32 h32
     refine Za 33 V V V (Zd V V ?_)
     rcases Zh h32 with ⟨rfl, g32⟩ | ⟨rfl, g32⟩
     ·skip
      refine Zi 34 V V V V V (Zi 35 V V V V V (Zi 36 V V V V V (Zi 37 V V V V V (Zi 38 V V V V V (Zi 39 V V V V V (Za 40 V V V (Zo V V V (Vq (Ub V ?_ by5 by3)))))))))
      first | (simp_all; done) | (simp_all; omega) | grind
     ·skip
      refine Zk 34 V V V V V (Zd V V (Zk 35 V V V V V (Zd V V ?_)))
      refine Zk 36 V V V V V (Yd (i := (j - 1)) V te_68 V (.seq _ _) V (by first | rfl | omega) (strs_at (ops := ops) (i := j - 1) (by omega)) ?_)
      refine Zk 37 V V V V V (Zp V Xd V V (Zk 38 V V V V V (Yk (xs := [.tmp 37]) V V (Level_at ops (j - 1)) by1 ?_)))
      refine Zk 39 V V V V V (Yw V V V ?_); intro c39 h39
      refine Za 40 V V V (Zo V V V (Vq (Ub V ?_ by5 by3)))
      first | (simp_all; done) | (simp_all; omega) | grind
    intro c40 h40
    refine Zb ?_
    rcases Zh h40 with ⟨rfl, g40⟩ | ⟨rfl, g40⟩
    ·refine Zn V (Zt (Yn (Zb (Zc (Za 9 V V V (Zd V V (Za 10 V V V (Yt V V V (Uh _ (by omega)) ?_))))))))
     refine Za 3 V V V (Ze V V (Vq (Yv ?_)))
     have hu2 : r = clashL (lvT ops) (ops.length - (k + 1)) (k + 1) := by
      first
       | (rw [if_neg (fun q => g40 ((back_eq g28).1 (by rw [← hb]; exact q.2)))] at hu; exact hu)
       | (rw [if_neg (fun q => g16 (by omega))] at hu; exact hu)
     exact ⟨k + 1, ⟨by omega, hu2⟩, by show ops.length - (k + 1) < ops.length - k; omega, Ua V (Le.inteq (by omega)) by4, by3⟩
    ·refine Zr V (Zf (Zc (Za 41 V V V (Zd V V (Za 2 V V V (Ze V V (Vq (Zb (Ya ?_)))))))))
     rw [if_pos ⟨by omega, by rw [hb]; exact (back_eq g28).2 g40⟩] at hu; exact Yg rfl rfl (Vx _) by3 ⟨by rw [hu], rfl⟩
   ·refine Zr V (Zt (Zb (Zw ?_)))
    obtain ⟨j, rfl⟩ : ∃ j', j = j' + 1 := ⟨j - 1, by omega⟩
    simp only [Nat.add_sub_cancel] at g28
    rw [backL, if_pos g28.2] at hb
    refine Zc (Za 29 V V V (Zd V V (Za 30 V V V (op_sub V V V (Uh _ (by omega)) ?_))))
    refine Za 4 V V V (Ze V V (Vq (Yn (Yv ?_))))
    exact ⟨j, ⟨by omega, hb⟩, Nat.lt_succ_self j, Ua V (Le.inteq (by omega)) by4, by3⟩
  ·refine Zr V (Yy (Xa (Yz (Zb (Zc (Za 9 V V V (Zd V V (Za 10 V V V (Yt V V V (Uh _ (by omega)) ?_)))))))))
   refine Za 3 V V V (Ze V V (Vq (Yv ?_)))
   have hu2 : r = clashL (lvT ops) (ops.length - (k + 1)) (k + 1) := by
    first
     | (rw [if_neg (fun q => g40 ((back_eq g28).1 (by rw [← hb]; exact q.2)))] at hu; exact hu)
     | (rw [if_neg (fun q => g16 (by omega))] at hu; exact hu)
   exact ⟨k + 1, ⟨by omega, hu2⟩, by show ops.length - (k + 1) < ops.length - k; omega, Ua V (Le.inteq (by omega)) by4, by3⟩
abbrev zEx : List AV := [.val (.int .i64 0), .val (.string kE), .val (.int .i64 0), .val (.int .i64 0), .val (.string kE), .val (.int .i64 0), .val (.slice none 0 0), .val (.slice none 0 0), .val (.slice none 0 0), .val (.slice none 0 0), .val (.int .i64 0)]
theorem rootB_in (ops : List Tok) : ∀ (f a i lo : Nat), lo ≤ a → a < i → lo ≤ rootB ops f a i ∧ rootB ops f a i < i + f
 | 0, a, i, lo, h1, h2 => ⟨h1, h2⟩
 | f + 1, a, i, lo, h1, h2 => by
  unfold rootB
  split
  ·have := rootB_in ops f i (i + 1) lo (by omega) (Nat.lt_succ_self i); omega
  ·have := rootB_in ops f a (i + 1) lo h1 (by omega); omega
theorem toks_at {ops : List Tok} {i : Nat} (h : i < ops.length) : (ops.map Tok.av)[i]? = some ((ops[i]?).getD (tok0 0)).av := by
 simp [List.getElem?_eq_getElem h]
theorem exs_at {l : List Ex} {i : Nat} (h : i < l.length) : (Ex.cellss l)[i]? = some ((l[i]?).getD ex0).cells := by
 rw [Ex.cellss_map]; simp [List.getElem?_eq_getElem h]
theorem Build_one (l : List Ex) (ops : List Tok) (hl : l.length = ops.length + 1) (a : Nat) (ha : a ≤ ops.length) : PCall Tryz.prog 107 [.seq 11 (Ex.cellss l), .seq 4 (ops.map Tok.av), .val (.int .i64 a), .val (.int .i64 a)] (.agg ((l[a]?).getD ex0).cells) := by
 have hx := exs_at (l := l) (i := a) (by omega)
 obtain ⟨⟨xk, xs, xn, ⟨xtk, xts, xtn, xtl⟩, xks, xal, xbs, xp⟩, e⟩ : ∃ x, (l[a]?).getD ex0 = x := ⟨_, rfl⟩
 rw [e] at hx ⊢
 refine Zu Tryz.func107 V (by kernel_rfl) V (Ud V) ?_
 refine Yf (Zf (Zc (Za 8 V V V (Zy (cs' := [_, _, _, _, _, _, _, _, _, _, _]) V Wc V V ?_)))); intro b8
 refine Vq (Zb (Zf (Zf (Zc (Za 17 V V V (Zd V V (Za 18 V V V (Zd V V (Za 19 V V V (Yw V V V ?_)))))))))); intro c19 h19
 refine Vq (Zb ?_)
 rcases Zh h19 with ⟨rfl, g19⟩ | ⟨rfl, g19⟩
 ·exact absurd V g19
 ·exact Zr V (Zf (Zc (Za 20 V V V (Zd V V (Za 21 V V V (Zd V V (Za 22 V V V (Yd V te_107 V (.seq _ _) V V (hx) (Za 23 V V V (Yc (cs' := [_, _, _, _, _, _, _, _, _, _, _]) V Wd V V V (Zq V V (Zm (cs' := [_, _, _, _, _, _, _, _, _, _, _]) (i := 0) V Wn V V V V V (Ud V) V (Vq (Zb (Ya (Ym (i := 0) V V V Wd V (Vx _) by3 ⟨V, V⟩))))))))))))))))
theorem Build_two (l : List Ex) (ops : List Tok) (hL : ops.length ≤ 200000) (a b d : Nat) (hab : a < b) (hb : b ≤ ops.length) (hd : b - a ≤ d + 1)
    (IH : ∀ a b, a ≤ b → b ≤ ops.length → b - a ≤ d → PCall Tryz.prog 107 [.seq 11 (Ex.cellss l), .seq 4 (ops.map Tok.av), .val (.int .i64 a), .val (.int .i64 b)] (.agg (buildF l ops d a b).cells)) :
    PCall Tryz.prog 107 [.seq 11 (Ex.cellss l), .seq 4 (ops.map Tok.av), .val (.int .i64 a), .val (.int .i64 b)] (.agg (buildF l ops (d + 1) a b).cells) := by
 rw [buildF, if_neg (by omega)]
 obtain ⟨r, hr⟩ : ∃ r, rootB ops (b - (a + 1)) a (a + 1) = r := ⟨_, rfl⟩
 have hin := rootB_in ops (b - (a + 1)) a (a + 1) a (Nat.le_refl _) (Nat.lt_succ_self a)
 rw [hr] at hin ⊢
 have H1 := IH a r hin.1 (by omega) (by omega)
 have H2 := IH (r + 1) b (by omega) hb (by omega)
 have hop := toks_at (ops := ops) (i := r) (by omega)
 obtain ⟨⟨xk, xs, xn, ⟨xtk, xts, xtn, xtl⟩, xks, xal, xbs, xp⟩, e1⟩ : ∃ x, buildF l ops d a r = x := ⟨_, rfl⟩
 obtain ⟨⟨yk, ys, yn, ⟨ytk, yts, ytn, ytl⟩, yks, yal, ybs, yp⟩, e2⟩ : ∃ x, buildF l ops d (r + 1) b = x := ⟨_, rfl⟩
 obtain ⟨⟨ok, ot, on, oa⟩, e3⟩ : ∃ x, (ops[r]?).getD (tok0 0) = x := ⟨_, rfl⟩
 rw [e1] at H1 ⊢
 rw [e2] at H2 ⊢
 rw [e3] at hop ⊢
 simp only [Ex.cells, Ty.cells, List.cons_append, List.nil_append, Tok.av] at H1 H2 hop
 clear IH
 obtain ⟨z, hz⟩ : ∃ z, binE (Tok.mk ok ot on oa) (Ex.mk xk xs xn (Ty.mk xtk xts xtn xtl) xks xal xbs xp) (Ex.mk yk ys yn (Ty.mk ytk yts ytn ytl) yks yal ybs yp) = z := ⟨_, rfl⟩
 rw [hz]
 unfold binE at hz
 simp only [] at hz
 refine Zu Tryz.func107 V (by kernel_rfl) V (Ud V) ?_
 refine Yf (Zf (Zc (Za 8 V V V (Zy (cs' := [_, _, _, _, _, _, _, _, _, _, _]) V Wc V V ?_)))); intro b8
 refine Vq (Zb (Zf (Zf (Zc (Za 17 V V V (Zd V V (Za 18 V V V (Zd V V (Za 19 V V V (Yw V V V ?_)))))))))); intro c19 h19
 refine Vq (Zb ?_)
 rcases Zh h19 with ⟨rfl, g19⟩ | ⟨rfl, g19⟩
 ·refine Zn V (Zt (Zb (Zf (Zc (Za 24 V V V (Zd V V (Za 9 V V V (Ze V V (Vq (Zb (Zf (Zf (Zc (Za 25 V V V (Zd V V (Za 26 V V V (Yt V V V (Uh _ (by omega)) ?_)))))))))))))))))
  refine Za 10 V V V (Ze V V (Vq (Zb (Zw ?_))))
  apply Xl [4, 5, 6, 7, 9, 10, 11, 12, 17, 18, 19, 20, 21, 22, 23, 24, 25, 26, 27, 28, 29, 30, 31, 32, 33, 34, 35, 36, 37, 38, 39, 40, 41, 42, 43, 44, 45, 46, 47, 48, 49, 50, 51, 52, 53, 54, 55, 56, 57] (σ := Nat × Nat) (fun zz => match zz with | (t, i) => [(9, .val (.int .i64 t)), (10, .val (.int .i64 i))]) (fun zz => match zz with | (t, i) => a ≤ t ∧ t < i ∧ i ≤ b ∧ rootB ops (b - i) t i = r) (fun zz => match zz with | (t, i) => b - i) ((a, a + 1))
  ·repeat' (first | exact Ug | apply Ue rfl | apply Uf rfl)
  ·exact ⟨Nat.le_refl _, Nat.lt_succ_self a, hab, hr⟩
  ·exact by4
  rintro ⟨t, i⟩ hI
  try dsimp only [List.cons_append, List.nil_append] at hI ⊢
  obtain ⟨h1, h2, h3, hu⟩ := hI
  refine Zf (Zf (Zc (Za 27 V V V (Zd V V (Za 28 V V V (Zd V V (Za 29 V V V (Yq V V V ?_)))))))); intro c29 h29
  refine Vq (Zb ?_)
  rcases Zh h29 with ⟨rfl, g29⟩ | ⟨rfl, g29⟩
  ·refine Zn V (Yy (Xa (Xs (Yz (Zb (Zf ?_))))))
   rw [show b - i = 0 by omega, rootB] at hu
   subst hu
   refine Zc (Za 58 V V V (Zd V V (Za 59 V V V (Zd V V (Za 60 V V V (Zd V V (Za 61 V V V (Zd V V (Za 62 V V V (Yk (xs := [.tmp 58, .tmp 59, .tmp 60, .tmp 61]) V V (H1) by1 ?_))))))))))
   refine Za 13 V V V (Zy (cs' := [_, _, _, _, _, _, _, _, _, _, _]) V Wc V V ?_); intro b13
   refine Zq V V (Zm (cs' := [_, _, _, _, _, _, _, _, _, _, _]) (i := 0) V Wn V V V V V (Ud V) V (Vq (Zb (Zf (Zc (Za 63 V V V (Zd V V (Za 64 V V V (Zd V V (Za 65 V V V (Zd V V (Za 66 V V V (Yt V V V (Uh _ (by omega)) ?_)))))))))))))
   refine Za 67 V V V (Zd V V (Za 68 V V V (Yk (xs := [.tmp 63, .tmp 64, .tmp 66, .tmp 67]) V V (H2) by1 ?_)))
   refine Za 14 V V V (Zy (cs' := [_, _, _, _, _, _, _, _, _, _, _]) V Wc V V ?_); intro b14
   refine Zq V V (Zm (cs' := [_, _, _, _, _, _, _, _, _, _, _]) (i := 0) V Wn V V V V V (Ud V) V (Vq (Zb (Zf (Zc (Za 69 V V V (Zd V V (Za 70 V V V (Zd V V (Za 71 V V V (Yd V te_93 V (.seq _ _) V V (hop) (Za 72 V V V (Yc (cs' := [_, _, _, _]) V Ys V V V (Za 15 V V V (Zy (cs' := [_, _, _, _]) V Wj V V ?_))))))))))))))); intro b15
   refine Zq V V (Zm (cs' := [_, _, _, _]) (i := 0) V Xk V V V V V (Ud V) V (Vq (Zb (Zf (Zf (Zc (Za 73 V V V (Zg V Xi V (Za 74 V V V (Zl (i := 0) V Xd V V V (Za 75 V V V (Xt V V V ?_)))))))))))); intro c75 h75
   refine Vq (Zb ?_)
   rcases Zh h75 with ⟨rfl, g75⟩ | ⟨rfl, g75⟩
   ·refine Zn V (Zt (Zb (Zf (Zf (Zc (Za 82 V V V (Zg V Xi V (Za 83 V V V (Zl (i := 0) V Xd V V V (Za 84 V V V (Xt V V V ?_))))))))))); intro c84 h84
    refine Vq (Zb ?_)
    rcases Zh h84 with ⟨rfl, g84⟩ | ⟨rfl, g84⟩
    ·refine Zn V (Zt (Zb (Zf (Zc (Za 91 V V V (Zg V Xi V (Za 92 V V V (Zl (i := 0) V Xd V V V (Za 93 V V V (Zg V Ww V (Za 94 V V V (Zl (i := 0) V Xf V V V (Za 95 V V V (Yj (ns := [0, 1, 7]) (xs := [.const (.int .i64 3), .tmp 92, .tmp 94]) V Wc V tfl_110 V V V V (Za 16 V V V (Zy (cs' := [_, _, _, _, _, _, _, _, _, _, _]) V Wc V V ?_)))))))))))))))); intro b16
     refine Zq V V (Zm (cs' := [_, _, _, _, _, _, _, _, _, _, _]) (i := 0) V Wn V V V V V (Ud V) V (Vq (Zb (Zf (Zc (Za 96 V V V (Zx (cs' := [_, _, _, _, _, _, _, _, _, _, _]) (i := 0) V Wd V V V V (Za 97 V V V (Zx (cs' := [_, _, _, _, _, _, _, _, _, _, _]) (i := 3) V Wd V V V V (Za 98 V V V (Yb (xs := [.tmp 96, .tmp 97]) el_107 V V V V V V (Ud V) (Za 99 V V V (Zg V Ww V (Za 100 V V V (Zl (i := 1) V Xf V V V (Za 101 V V V (Yj (ns := [0, 4, 7]) (xs := [.const (.int .i64 5), .tmp 98, .tmp 100]) V Wc V tfl_110 V V V V (Zq V V (Zm (cs' := [_, _, _, _, _, _, _, _, _, _, _]) (i := 0) V Wn V V V V V (Ud V) V (Vq (Zb (Zf (Zc (Za 102 V V V (Zx (cs' := [_, _, _, _, _, _, _, _, _, _, _]) (i := 0) V Wd V V V V (Za 103 V V V (Zx (cs' := [_, _, _, _, _, _, _, _, _, _, _]) (i := 2) V Wd V V V V ?_)))))))))))))))))))))))))))
     refine Za 104 V V V (Yb (xs := [.tmp 102, .tmp 103]) el_107 V V V V V V (Ud V) (Za 105 V V V (Zg V Ww V (Za 106 V V V (Zl (i := 1) V Xf V V V (Za 107 V V V (Yj (ns := [0, 4, 7]) (xs := [.const (.int .i64 5), .tmp 104, .tmp 106]) V Wc V tfl_110 V V V V (Zq V V (Zm (cs' := [_, _, _, _, _, _, _, _, _, _, _]) (i := 4) V Wn V V V V V (Ud V) V (Vq (Zb (Ya ?_))))))))))))
     rw [if_neg g75, if_neg g84] at hz; subst hz; exact Ym (i := 4) rfl rfl rfl Wd rfl by0 by3 ⟨rfl, rfl⟩
    ·refine Zr V (Zf (Zc (Za 85 V V V (Zx (cs' := [_, _, _, _, _, _, _, _, _, _, _]) (i := 2) V Wd V V V V (Za 86 V V V (Zx (cs' := [_, _, _, _, _, _, _, _, _, _, _]) (i := 1) V Wd V V V V (Za 87 V V V (Yb (xs := [.tmp 85, .tmp 86]) el_107 V V V V V V (Ud V) (Za 88 V V V (Zg V Ww V (Za 89 V V V (Zl (i := 0) V Xf V V V (Za 90 V V V (Yj (ns := [0, 4, 7]) (xs := [.const (.int .i64 11), .tmp 87, .tmp 89]) V Wc V tfl_110 V V V V (Zq V V (Zm (cs' := [_, _, _, _, _, _, _, _, _, _, _]) (i := 3) V Wn V V V V V (Ud V) V (Vq (Zb (Ya ?_)))))))))))))))))))
     rw [if_neg g75, if_pos g84] at hz; subst hz; exact Ym (i := 3) rfl rfl rfl Wd rfl by0 by3 ⟨rfl, rfl⟩
   ·refine Zr V (Zf (Zc (Za 76 V V V (Zx (cs' := [_, _, _, _, _, _, _, _, _, _, _]) (i := 2) V Wd V V V V (Za 77 V V V (Zx (cs' := [_, _, _, _, _, _, _, _, _, _, _]) (i := 1) V Wd V V V V (Za 78 V V V (Yb (xs := [.tmp 76, .tmp 77]) el_107 V V V V V V (Ud V) (Za 79 V V V (Zg V Ww V (Za 80 V V V (Zl (i := 0) V Xf V V V (Za 81 V V V (Yj (ns := [0, 4, 7]) (xs := [.const (.int .i64 10), .tmp 78, .tmp 80]) V Wc V tfl_110 V V V V (Zq V V (Zm (cs' := [_, _, _, _, _, _, _, _, _, _, _]) (i := 3) V Wn V V V V V (Ud V) V (Vq (Zb (Ya ?_)))))))))))))))))))
    rw [if_pos g75] at hz; subst hz; exact Ym (i := 3) rfl rfl rfl Wd rfl by0 by3 ⟨rfl, rfl⟩
  ·refine Zr V (Zt (Zb (Zf (Zw (Zf (Zc (Za 32 V V V (Zd V V (Za 33 V V V (Zd V V (Za 34 V V V (Yd V te_93 V (.seq _ _) V V (toks_at (ops := ops) (i := t) (by omega)) ?_))))))))))))
   refine Za 35 V V V (Zj V Xi V V (Za 36 V V V (Zp V Xd V V (Za 37 V V V (Yk (xs := [.tmp 36]) V V (Level_at ops t) by1 ?_)))))
   refine Za 11 V V V (Ze V V (Vq (Zb (Zf (Zc (Za 38 V V V (Zd V V (Za 39 V V V (Zd V V (Za 40 V V V (Yd V te_93 V (.seq _ _) V V (toks_at (ops := ops) (i := i) (by omega)) ?_)))))))))))
   refine Za 41 V V V (Zj V Xi V V (Za 42 V V V (Zp V Xd V V (Za 43 V V V (Yk (xs := [.tmp 42]) V V (Level_at ops i) by1 ?_)))))
   refine Za 12 V V V (Ze V V (Vq (Zb (Zf (Xj 56 (lvT ops i < lvT ops t ∨ (lvT ops i = lvT ops t ∧ sideN (lvT ops t) = 1)) ?_ _ _ V ?_)))))
   ·skip
    refine Za 44 V V V (Zd V V (Za 45 V V V (Zd V V (Za 46 V V V (Yq V V V ?_))))); intro c46 h46
    refine Za 47 V V V (Zd V V ?_)
    rcases Zh h46 with ⟨rfl, g46⟩ | ⟨rfl, g46⟩
    ·skip
     refine Zk 48 V V V V V (Zd V V (Zk 49 V V V V V (Zd V V (Zk 50 V V V V V (Yw V V V ?_))))); intro c50 h50
     refine Zk 51 V V V V V (Zd V V ?_)
     rcases Zh h50 with ⟨rfl, g50⟩ | ⟨rfl, g50⟩
     ·skip
      refine Zi 52 V V V V V (Zi 53 V V V V V (Zi 54 V V V V V (Zk 55 V V V V V (Zo V V V (Za 56 V V V (Zo V V V (Vq (Ub V ?_ by5 by3))))))))
      clear H1 H2; first | (simp_all; done) | (simp_all; omega) | grind
     ·skip
      refine Zk 52 V V V V V (Zd V V (Zk 53 V V V V V (Yk (xs := [.tmp 52]) V V (Side_p (lvT ops t)) by1 ?_)))
      refine Zk 54 V V V V V (Yw V V V ?_); intro c54 h54
      refine Zk 55 V V V V V (Zo V V V (Za 56 V V V (Zo V V V (Vq (Ub V ?_ by5 by3)))))
      clear H1 H2; first | (simp_all; done) | (simp_all; omega) | grind
    ·skip
     refine Zi 48 V V V V V (Zi 49 V V V V V (Zi 50 V V V V V (Zi 51 V V V V V (Yr 52 V V V V V (Yr 53 V V V V V (Yr 54 V V V V V (Zi 55 V V V V V (Za 56 V V V (Zo V V V (Vq (Ub V ?_ by5 by3)))))))))))
     clear H1 H2; first | (simp_all; done) | (simp_all; omega) | grind
   intro c56 h56
   refine Zb ?_
   rcases Zh h56 with ⟨rfl, g56⟩ | ⟨rfl, g56⟩
   ·refine Zn V (Zt (Yn (Zb ?_)))
    obtain ⟨f, hf⟩ : ∃ f, b - i = f + 1 := ⟨b - i - 1, by omega⟩
    rw [hf, rootB] at hu
    have hf2 : f = b - (i + 1) := by omega
    rw [hf2] at hu
    refine Zc (Za 30 V V V (Zd V V (Za 31 V V V (Yt V V V (Uh _ (by omega)) ?_))))
    refine Za 10 V V V (Ze V V (Vq (Yv ?_)))
    first
    | (rw [if_pos g56] at hu; exact ⟨(i, i + 1), ⟨by show a ≤ i; omega, Nat.lt_succ_self i, by show i + 1 ≤ b; omega, hu⟩, by show b - (i + 1) < b - i; omega, Ua rfl (Vx _) (Ua rfl (Le.inteq (by omega)) by4), by3⟩)
    | (rw [if_neg g56] at hu; exact ⟨(t, i + 1), ⟨h1, by show t < i + 1; omega, by show i + 1 ≤ b; omega, hu⟩, by show b - (i + 1) < b - i; omega, Ua rfl (Vx _) (Ua rfl (Le.inteq (by omega)) by4), by3⟩)
   ·refine Zr V (Zc (Za 57 V V V (Zd V V (Za 9 V V V (Ze V V (Vq (Yn (Zb ?_))))))))
    obtain ⟨f, hf⟩ : ∃ f, b - i = f + 1 := ⟨b - i - 1, by omega⟩
    rw [hf, rootB] at hu
    have hf2 : f = b - (i + 1) := by omega
    rw [hf2] at hu
    refine Zc (Za 30 V V V (Zd V V (Za 31 V V V (Yt V V V (Uh _ (by omega)) ?_))))
    refine Za 10 V V V (Ze V V (Vq (Yv ?_)))
    first
    | (rw [if_pos g56] at hu; exact ⟨(i, i + 1), ⟨by show a ≤ i; omega, Nat.lt_succ_self i, by show i + 1 ≤ b; omega, hu⟩, by show b - (i + 1) < b - i; omega, Ua rfl (Vx _) (Ua rfl (Le.inteq (by omega)) by4), by3⟩)
    | (rw [if_neg g56] at hu; exact ⟨(t, i + 1), ⟨h1, by show t < i + 1; omega, by show i + 1 ≤ b; omega, hu⟩, by show b - (i + 1) < b - i; omega, Ua rfl (Vx _) (Ua rfl (Le.inteq (by omega)) by4), by3⟩)
 ·omega
theorem Build_c (l : List Ex) (ops : List Tok) (hl : l.length = ops.length + 1) (hL : ops.length ≤ 200000) : ∀ (d a b : Nat), a ≤ b → b ≤ ops.length → b - a ≤ d → PCall Tryz.prog 107 [.seq 11 (Ex.cellss l), .seq 4 (ops.map Tok.av), .val (.int .i64 a), .val (.int .i64 b)] (.agg (buildF l ops d a b).cells)
 | 0, a, b, h1, h2, h3 => by
  obtain rfl : a = b := by omega
  exact Build_one l ops hl a h2
 | d + 1, a, b, h1, h2, h3 => by
  by_cases h : a = b
  ·subst h
   rw [buildF, if_pos rfl]
   exact Build_one l ops hl a h2
  ·exact Build_two l ops hL a b d (by omega) h2 h3 (Build_c l ops hl hL d)
def ExC (b : Nat) (L : List Tok) (n : Nat) (E : PS → Ex × PS) : Prop := ∀ q, POk L n q → MCall Tryz.prog 86 [.ptr b 0] (.loc b (psC L q)) (.agg (E q).1.cells) (.loc b (psC L (E q).2))
theorem take_prog {L : List Tok} {p : PS} {kind : Int} {s : ByteArray} (hk : kind ≠ 0) (h : (takeP L p kind s).2.e = 0) : takeP L p kind s = (nxt L p, stepP p) ∧ p.e = 0 ∧ p.at_ < L.length := by
 unfold takeP at h ⊢
 by_cases q : p.e ≠ 0
 ·rw [if_pos q] at h; exact absurd h q
 ·rw [if_neg q] at h ⊢
  by_cases q2 : (kind < 6 ∧ (nxt L p).k ≠ kind) ∨ (6 ≤ kind ∧ ((nxt L p).k < 6 ∨ (nxt L p).t ≠ s))
  ·rw [if_pos q2] at h; exact absurd h (fail_ne (by decide))
  ·rw [if_neg q2]; exact ⟨rfl, Vp (by omega)⟩
theorem nxt_ok {L : List Tok} {p : PS} (h : (nxt L p).k ≠ 0) : p.e = 0 := (Vp h).1
theorem bind_c (b : Nat) (L : List Tok) (hL : L.length ≤ 100000) (n : Nat) (E : PS → Ex × PS) (HE : ExC b L n E) (p : PS) (k : POk L n p) : MCall Tryz.prog 56 [.ptr b 0] (.loc b (psC L p)) (.agg (bindG L E p).1.cells) (.loc b (psC L (bindG L E p).2)) := by
 have H1 := pName_c b L hL n p k
 have k1 := (name_adv k).ok k
 have H2 := take_c b L hL _ k1.1 7 kEq
 have k2 := (Yo (kind := 7) (s := kEq) (by decide) k1).ok k1
 have H3 := HE _ k2
 obtain ⟨r, hr⟩ : ∃ r, bindG L E p = r := ⟨_, rfl⟩
 rw [hr]
 unfold bindG at hr
 obtain ⟨⟨⟨tk, tt, tn, ta⟩, p1⟩, e1⟩ : ∃ r, nameP L p = r := ⟨_, rfl⟩
 rw [e1] at H1 H2 H3 hr
 obtain ⟨⟨u2, p2⟩, e2⟩ : ∃ r, takeP L p1 7 kEq = r := ⟨_, rfl⟩
 simp only [] at H2 H3 hr
 rw [e2] at H2 H3 hr
 simp only [] at H2 H3 hr
 obtain ⟨⟨⟨xk, xs, xn, ⟨xtk, xts, xtn, xtl⟩, xks, xal, xbs, xp⟩, p3⟩, e3⟩ : ∃ r, E p2 = r := ⟨_, rfl⟩
 rw [e3] at H3 hr
 simp only [Ex.cells, Ty.cells, List.cons_append, List.nil_append, Tok.av] at H1 H3 hr
 subst hr
 refine Zu Tryz.func56 V (by kernel_rfl) V (Ud V) ?_
 refine Yf (Zf (Zc (Za 2 V V V (Zy (cs' := [_, _, _, _, _, _, _, _, _, _, _, _, _]) V tz_112 V V ?_)))); intro b2
 refine Vq (Zb (Zf (Zc (Za 4 V V V (Zd V V (Za 5 V V V (Yi (xs := [.tmp 4]) (i := 1) V V V (H1) by1 ?_)))))))
 refine Za 3 V V V (Zy (cs' := [_, _, _, _]) V Wj V V ?_); intro b3
 refine Zq V V (Zm (cs' := [_, _, _, _]) (i := 0) V Xk V V V V V (Ud V) V (Vq (Zb (Zf (Zc (Za 6 V V V (Zd V V (Za 7 V V V (Yi (xs := [.tmp 6, .const (.int .i64 7), .const (.string ⟨#[61]⟩)]) (i := 2) V V V (H2) by1 ?_)))))))))
 refine Vq (Zb (Zf (Xu [0, 1, 2, 4, 5, 3, 6, 7] [3, 7] [[], [0], [], [2], [], [4], [0, 1, 2, 3, 4, 5], [0, 1, 2, 3, 4, 5, 6]] Wk V (Zz 8 (none) (i := 0) V V V V V (Zg V Xi V ⟨V, V⟩) ?_))))
 refine Zz 9 (some 0) (i := 1) V V V V V (Zl (i := 0) V Xd V V V ⟨V, V⟩) ?_
 refine Zz 10 (none) (i := 2) V V V V V (Zd V V ⟨V, V⟩) ?_
 refine Zz 12 (none) (i := 4) V V V V V (Zg V Ww V ⟨V, V⟩) ?_
 refine Zz 13 (some 0) (i := 5) V V V V V (Zl (i := 0) V Xf V V V ⟨V, V⟩) ?_
 refine Xm 2 (i := 3) V V V V V (Yi (xs := [.tmp 10]) (i := 0) V V V (H3) by1 ⟨_, V, ?_⟩)
 refine Zz 14 (none) (i := 6) V V V V V (Yj (ns := [0, 1, 2]) (xs := [.tmp 9, .tmp 11, .tmp 13]) V tz_112 V tfl_112 V V V V ⟨V, V⟩) ?_
 refine Xm 1 (i := 7) V V V V V (Zm (cs' := [_, _, _, _, _, _, _, _, _, _, _, _, _]) (i := 0) V ts_112 V V V V V (Ud V) V ⟨_, V, ?_⟩)
 show AGo _ _ _ _ _ _ _
 exact Zb (Ya (Ym (i := 1) V V V ta_112 V (Vx _) (Vu _ (Vu _ (Vw V))) ⟨V, V⟩))
theorem lambda_c (b : Nat) (L : List Tok) (hL : L.length ≤ 100000) (n : Nat) (E : PS → Ex × PS) (HE : ExC b L n E) : ∀ (f : Nat) (p : PS) (a : Int), POk L n p → L.length - p.at_ < f → MCall Tryz.prog 123 [.ptr b 0, .val (.int .i64 a)] (.loc b (psC L p)) (.agg (lambdaG L E f p a).1.cells) (.loc b (psC L (lambdaG L E f p a).2))
 | 0, p, a, k, h => by omega
 | f + 1, p, a, k, h => by
  have H1 := take_c b L hL _ k.1 1 kE
  have k1 := (Yo (kind := 1) (s := kE) (by decide) k).ok k
  have hp1 := take_prog (L := L) (p := p) (kind := 1) (s := kE) (by decide)
  obtain ⟨r, hr⟩ : ∃ r, lambdaG L E (f + 1) p a = r := ⟨_, rfl⟩
  rw [hr]
  rw [lambdaG] at hr
  obtain ⟨⟨⟨tk, tt, tn, ta⟩, p1⟩, e1⟩ : ∃ r, takeP L p 1 kE = r := ⟨_, rfl⟩
  rw [e1] at H1 k1 hr hp1
  simp only [Tok.av] at H1 k1 hr hp1
  have HN := next_c b L p1
  obtain ⟨⟨qk, qt, qn, qa⟩, e4⟩ : ∃ r, nxt L p1 = r := ⟨_, rfl⟩
  have hn1 := nxt_ok (L := L) (p := p1)
  rw [e4] at HN hr hn1
  simp only [Tok.av] at HN hr hn1
  have H2 := take_c b L hL p1 k1.1 7 kArrow
  have k2 := (Yo (kind := 7) (s := kArrow) (by decide) k1).ok k1
  have H3 := HE _ k2
  have IH : qk = 1 → MCall Tryz.prog 123 [.ptr b 0, .val (.int .i64 qa)] (.loc b (psC L p1)) (.agg (lambdaG L E f p1 qa).1.cells) (.loc b (psC L (lambdaG L E f p1 qa).2)) := fun q => by
   have h1 := hp1 (hn1 (by omega))
   have h2 : p1 = stepP p := by have := h1.1; simp only [Prod.mk.injEq] at this; exact this.2
   refine lambda_c b L hL n E HE f p1 qa k1 ?_
   have h3 := h1.2.2
   rw [h2]
   show L.length - (p.at_ + 1) < f
   omega
  obtain ⟨⟨⟨yk, ys, yn, ⟨ytk, yts, ytn, ytl⟩, yks, yal, ybs, yp⟩, p4⟩, e5⟩ : ∃ r, lambdaG L E f p1 qa = r := ⟨_, rfl⟩
  rw [e5] at IH hr
  obtain ⟨⟨⟨xk, xs, xn, ⟨xtk, xts, xtn, xtl⟩, xks, xal, xbs, xp⟩, p3⟩, e3⟩ : ∃ r, E (takeP L p1 7 kArrow).2 = r := ⟨_, rfl⟩
  rw [e3] at H3 hr
  simp only [Ex.cells, Ty.cells, List.cons_append, List.nil_append] at IH H3 hr
  clear hp1 hn1
  refine Zu Tryz.func123 V (by kernel_rfl) V (Ud V) ?_
  refine Yf (Zf (Zc (Za 4 V V V (Zy (cs' := [_, _, _, _, _, _, _, _, _, _, _]) V Wc V V ?_)))); intro b4
  refine Vq (Zb (Zf (Zc (Za 7 V V V (Zd V V (Za 8 V V V (Yi (xs := [.tmp 7, .const (.int .i64 1), .const (.string ⟨#[]⟩)]) (i := 1) V V V (H1) by1 ?_)))))))
  refine Za 5 V V V (Zy (cs' := [_, _, _, _]) V Wj V V ?_); intro b5
  refine Zq V V (Zm (cs' := [_, _, _, _]) (i := 0) V Xk V V V V V (Ud V) V (Vq (Zb (Zf (Zc (Za 9 V V V (Zg V Xi V (Za 10 V V V (Zl (i := 0) V Xd V V V (Za 11 V V V (Zd V V (Za 12 V V V (Yj (ns := [0, 1, 7]) (xs := [.const (.int .i64 6), .tmp 10, .tmp 11]) V Wc V tfl_110 V V V V (Za 6 V V V (Zy (cs' := [_, _, _, _, _, _, _, _, _, _, _]) V Wc V V ?_))))))))))))))); intro b6
  refine Zq V V (Zm (cs' := [_, _, _, _, _, _, _, _, _, _, _]) (i := 0) V Wn V V V V V (Ud V) V (Vq (Zb (Zf (Zf (Zc (Za 13 V V V (Zd V V (Za 14 V V V (Ws (xs := [.tmp 13]) [3] V V V (HN) by1 ?_))))))))))
  refine Za 15 V V V (Vb (ft := 3) (fo := 0) V (by kernel_rfl) Xf V V ?_)
  refine Za 16 V V V (Yw V V V ?_); intro c16 h16
  refine Vq (Zb ?_)
  rcases Zh h16 with ⟨rfl, g16⟩ | ⟨rfl, g16⟩
  ·refine Zn V (Zt (Zb (Zf (Zc (Za 28 V V V (Zd V V (Za 29 V V V (Yi (xs := [.tmp 28, .const (.int .i64 7), .const (.string ⟨#[45, 62]⟩)]) (i := 3) V V V (H2) by1 ?_))))))))
   refine Vq (Zb (Zf (Xu [0, 1, 2, 3, 4, 5, 6, 7] [3, 5, 7] [[], [0], [], [2], [2, 3], [0, 1, 2, 3, 4], [0, 1, 2, 3, 4, 5], [0, 1, 2, 3, 4, 5, 6]] Wk V (Zz 30 (none) (i := 0) V V V V V (Zg V tf_110_4 V ⟨V, V⟩) ?_))))
   refine Zz 31 (some 0) (i := 1) V V V V V (Zl (i := 0) V ta_107 V V V ⟨V, V⟩) ?_
   refine Zz 32 (none) (i := 2) V V V V V (Zd V V ⟨V, V⟩) ?_
   refine Xm 3 (i := 3) V V V V V (Yi (xs := [.tmp 32]) (i := 0) V V V (H3) by1 ⟨_, V, ?_⟩)
   refine Zz 34 (none) (i := 4) V V V V V (Yb (xs := [.tmp 33]) el_107 V V V V V V (Ud V) ⟨V, V⟩) ?_
   refine EOps.nw (i := 5) V V V (op_append_nil el_107 V V V (.seq _ _) by6 (fun u35 => ⟨_, V, ?_⟩))
   refine Zz 36 (none) (i := 6) V V V V V (Zg V tf_110_4 V ⟨V, V⟩) ?_
   refine Xm 0 (i := 7) V V V V V (Zm (cs' := [_, _, _, _, _, _, _, _, _, _, _]) (i := 0) V ts_107 V V V V V (Ud V) V ⟨_, V, ?_⟩)
   show AGo _ _ _ _ _ _ _
   refine Zb (Zf (Zc (Za 37 V V V (Zx (cs' := [_, _, _, _, _, _, _, _, _, _, _]) (i := 0) V Wd V V V V (Zq V V (Zm (cs' := [_, _, _, _, _, _, _, _, _, _, _]) (i := 2) V Wn V V V V V (Ud V) V (Vq (Zb (Ya ?_)))))))))
   rw [if_neg g16] at hr; subst hr; exact Ym (i := 2) rfl rfl rfl Wd rfl by0 (Vu _ (Vu _ (Vu _ (Vt _ (Vs _))))) ⟨rfl, rfl⟩
  ·refine Zr V (Zf (Xu [0, 1, 2, 3, 4, 5, 6, 7, 8, 9, 10] [6, 8, 10] [[], [0], [], [], [3], [3, 4], [2, 3, 4, 5], [2, 3, 4, 5, 6], [0, 1, 2, 3, 4, 5, 6, 7], [0, 1, 2, 3, 4, 5, 6, 7, 8], [0, 1, 2, 3, 4, 5, 6, 7, 8, 9]] Wk V (Zz 17 (none) (i := 0) V V V V V (Zg V tf_110_4 V ⟨V, V⟩) ?_)))
   refine Zz 18 (some 0) (i := 1) V V V V V (Zl (i := 0) V ta_107 V V V ⟨V, V⟩) ?_
   refine Zz 19 (none) (i := 2) V V V V V (Zd V V ⟨V, V⟩) ?_
   refine Zz 20 (none) (i := 3) V V V V V (Zd V V ⟨V, V⟩) ?_
   refine Zz 21 (some 3) (i := 4) V V V V V (Ws (xs := [.tmp 20]) [0] V V V (HN) by1 ⟨V, V⟩) ?_
   refine Zz 22 (none) (i := 5) V V V V V (Vb (ft := 3) (fo := 3) V (by kernel_rfl) Xf V V ⟨V, V⟩) ?_
   refine Xm 3 (i := 6) V V V V V (Yi (xs := [.tmp 19, .tmp 22]) (i := 0) V V V (IH g16) by1 ⟨_, V, ?_⟩)
   refine Zz 24 (none) (i := 7) V V V V V (Yb (xs := [.tmp 23]) el_107 V V V V V V (Ud V) ⟨V, V⟩) ?_
   refine EOps.nw (i := 8) V V V (op_append_nil el_107 V V V (.seq _ _) by6 (fun u25 => ⟨_, V, ?_⟩))
   refine Zz 26 (none) (i := 9) V V V V V (Zg V tf_110_4 V ⟨V, V⟩) ?_
   refine Xm 0 (i := 10) V V V V V (Zm (cs' := [_, _, _, _, _, _, _, _, _, _, _]) (i := 0) V ts_107 V V V V V (Ud V) V ⟨_, V, ?_⟩)
   show AGo _ _ _ _ _ _ _
   refine Zb (Zf (Zc (Za 27 V V V (Zx (cs' := [_, _, _, _, _, _, _, _, _, _, _]) (i := 0) V Wd V V V V (Zq V V (Zm (cs' := [_, _, _, _, _, _, _, _, _, _, _]) (i := 2) V Wn V V V V V (Ud V) V (Vq (Zb (Ya ?_)))))))))
   rw [if_pos g16] at hr; subst hr; exact Ym (i := 2) rfl rfl rfl Wd rfl by0 (Vu _ (Vu _ (Vu _ (Vt _ (Vs _))))) ⟨rfl, rfl⟩
theorem atom_lit (b : Nat) (L : List Tok) (hL : L.length ≤ 100000) (n : Nat) (E : PS → Ex × PS) (p : PS) (k : POk L n p) (h : (nxt L p).k = 1 ∨ (nxt L p).k = 2 ∨ (nxt L p).k = 3 ∨ (nxt L p).k = 4) : MCall Tryz.prog 124 [.ptr b 0] (.loc b (psC L p)) (.agg (atomG L E p).1.cells) (.loc b (psC L (atomG L E p).2)) := by
 have HN := next_c b L p
 have hp := k.1
 have hlt : p.at_ < L.length := (Vp (by omega)).2
 obtain ⟨r, hr⟩ : ∃ r, atomG L E p = r := ⟨_, rfl⟩
 rw [hr]
 unfold atomG at hr
 obtain ⟨⟨tk, tt, tn, ta⟩, ht⟩ : ∃ t, nxt L p = t := ⟨_, rfl⟩
 rw [ht] at HN hr h
 simp only [Tok.av] at HN hr h
 refine Zu Tryz.func124 V (by kernel_rfl) V (Ud V) ?_
 refine Yf (Zf (Zc (Za 2 V V V (Zy (cs' := [_, _, _, _, _, _, _, _, _, _, _]) V Wc V V ?_)))); intro b2
 refine Vq (Zb (Zf (Zc (Za 9 V V V (Zd V V (Za 10 V V V (Ws (xs := [.tmp 9]) [1] V V V (HN) by1 ?_)))))))
 refine Za 3 V V V (Zy (cs' := [_, _, _, _]) V Wj V V ?_); intro b3
 refine Zq V V (Zm (cs' := [_, _, _, _]) (i := 0) V Xk V V V V V (Ud V) V (Vq (Zb (Zf (Zc (Za 11 V V V (Zg V Ww V (Za 12 V V V (Zl (i := 0) V Xf V V V (Za 13 V V V (Yj (ns := [7]) (xs := [.tmp 12]) V Wc V tfl_110 V V V V (Za 4 V V V (Zy (cs' := [_, _, _, _, _, _, _, _, _, _, _]) V Wc V V ?_))))))))))))); intro b4
 refine Zq V V (Zm (cs' := [_, _, _, _, _, _, _, _, _, _, _]) (i := 0) V Wn V V V V V (Ud V) V (Vq (Zb (Zf ?_))))
 apply c_joink [1, 9, 10, 11, 12, 13, 14, 15, 16, 17, 18, 19, 20, 21, 22, 23, 24, 25, 26, 27, 28, 29, 30, 31, 32, 33, 34, 35, 36, 37, 38, 39, 40, 41, 42, 43, 44, 45, 68, 81, 94, 97, 128] (σ := Int × ByteArray × Int) (fun zz => match zz with | (kk, ss, nn) => []) (fun zz => match zz with | (kk, ss, nn) => [.loc b4 [.val (.int .i64 kk), .val (.string ss), .val (.int .i64 nn), .val (.int .i64 0), .val (.string kE), .val (.int .i64 0), .val (.slice none 0 0), .val (.slice none 0 0), .val (.slice none 0 0), .val (.slice none 0 0), .val (.int .i64 ta)], .loc b3 (Tok.mk tk tt tn ta).av, .loc b2 zEx, .loc b (psC L p)]) (fun zz => match zz with | (kk, ss, nn) => 0 < kk ∧ (Ex.mk kk ss nn ty0 [] [] [] ta, stepP p) = r)
 ·repeat' (first | exact Ug | apply Ue rfl | apply Uf rfl)
 ·skip
  refine Zw (Zf (Zc (Za 15 V V V (Zg V Xe V (Za 16 V V V (Zl (i := 1) V Xf V V V (Za 17 V V V (Yw V V V ?_)))))))); intro c17 h17
  refine Za 14 V V V (Ze V V (Vq (Zb ?_)))
  rcases Zh h17 with ⟨rfl, g17⟩ | ⟨rfl, g17⟩
  ·refine Zn V (Zf (Zc (Za 23 V V V (Zg V Xe V (Za 24 V V V (Zl (i := 1) V Xf V V V (Za 25 V V V (Yw V V V ?_)))))))); intro c25 h25
   refine Za 22 V V V (Ze V V (Vq (Zb ?_)))
   rcases Zh h25 with ⟨rfl, g25⟩ | ⟨rfl, g25⟩
   ·refine Zn V (Zf (Zc (Za 31 V V V (Zg V Xe V (Za 32 V V V (Zl (i := 1) V Xf V V V (Za 33 V V V (Yw V V V ?_)))))))); intro c33 h33
    refine Za 30 V V V (Ze V V (Vq (Zb ?_)))
    rcases Zh h33 with ⟨rfl, g33⟩ | ⟨rfl, g33⟩
    ·refine Zn V (Zf (Zc (Za 39 V V V (Zg V Xe V (Za 40 V V V (Zl (i := 1) V Xf V V V (Za 41 V V V (Yw V V V ?_)))))))); intro c41 h41
     refine Za 38 V V V (Ze V V (Vq (Zb ?_)))
     rcases Zh h41 with ⟨rfl, g41⟩ | ⟨rfl, g41⟩
     ·omega
     ·refine Zr V (Zf (Zc (Za 42 V V V (Zg V tf_110_0 V (Zq V V (Zm (cs' := [_, _, _, _, _, _, _, _, _, _, _]) (i := 0) V Wh V V V V V (Ud V) V (Vq (Zb (Zc (Za 43 V V V (Zg V Xi V (Za 44 V V V (Zl (i := 1) V Xd V V V (Za 45 V V V (Zg V tf_110_1 V (Zq V V (Zm (cs' := [_, _, _, _, _, _, _, _, _, _, _]) (i := 0) V ts_9 V V V V V (Ud V) V (Vq (Yn (Yv ?_))))))))))))))))))))
      first
      | (rw [if_pos g17] at hr; exact ⟨(3, tt, 0), ⟨by decide, hr⟩, by4, Vw rfl⟩)
      | (rw [if_neg g17, if_pos g25] at hr; exact ⟨(4, tt, 0), ⟨by decide, hr⟩, by4, Vw rfl⟩)
      | (rw [if_neg g17, if_neg g25, if_pos g33] at hr; exact ⟨(1, kE, tn), ⟨by decide, hr⟩, by4, Vw rfl⟩)
      | (rw [if_neg g17, if_neg g25, if_neg g33, if_pos g41] at hr; exact ⟨(2, tt, 0), ⟨by decide, hr⟩, by4, Vw rfl⟩)
    ·refine Zr V (Zf (Zc (Za 34 V V V (Zg V tf_110_0 V (Zq V V (Zm (cs' := [_, _, _, _, _, _, _, _, _, _, _]) (i := 0) V Wh V V V V V (Ud V) V (Vq (Zb (Zc (Za 35 V V V (Zg V tf_97_2 V (Za 36 V V V (Zl (i := 1) V ta_2 V V V (Za 37 V V V (Zg V tf_110_2 V (Zq V V (Zm (cs' := [_, _, _, _, _, _, _, _, _, _, _]) (i := 0) V ts_2 V V V V V (Ud V) V (Vq (Yn (Yv ?_))))))))))))))))))))
     first
     | (rw [if_pos g17] at hr; exact ⟨(3, tt, 0), ⟨by decide, hr⟩, by4, Vw rfl⟩)
     | (rw [if_neg g17, if_pos g25] at hr; exact ⟨(4, tt, 0), ⟨by decide, hr⟩, by4, Vw rfl⟩)
     | (rw [if_neg g17, if_neg g25, if_pos g33] at hr; exact ⟨(1, kE, tn), ⟨by decide, hr⟩, by4, Vw rfl⟩)
     | (rw [if_neg g17, if_neg g25, if_neg g33, if_pos g41] at hr; exact ⟨(2, tt, 0), ⟨by decide, hr⟩, by4, Vw rfl⟩)
   ·refine Zr V (Zf (Zc (Za 26 V V V (Zg V tf_110_0 V (Zq V V (Zm (cs' := [_, _, _, _, _, _, _, _, _, _, _]) (i := 0) V Wh V V V V V (Ud V) V (Vq (Zb (Zc (Za 27 V V V (Zg V Xi V (Za 28 V V V (Zl (i := 1) V Xd V V V (Za 29 V V V (Zg V tf_110_1 V (Zq V V (Zm (cs' := [_, _, _, _, _, _, _, _, _, _, _]) (i := 0) V ts_9 V V V V V (Ud V) V (Vq (Yn (Yv ?_))))))))))))))))))))
    first
    | (rw [if_pos g17] at hr; exact ⟨(3, tt, 0), ⟨by decide, hr⟩, by4, Vw rfl⟩)
    | (rw [if_neg g17, if_pos g25] at hr; exact ⟨(4, tt, 0), ⟨by decide, hr⟩, by4, Vw rfl⟩)
    | (rw [if_neg g17, if_neg g25, if_pos g33] at hr; exact ⟨(1, kE, tn), ⟨by decide, hr⟩, by4, Vw rfl⟩)
    | (rw [if_neg g17, if_neg g25, if_neg g33, if_pos g41] at hr; exact ⟨(2, tt, 0), ⟨by decide, hr⟩, by4, Vw rfl⟩)
  ·refine Zr V (Zf (Zc (Za 18 V V V (Zg V tf_110_0 V (Zq V V (Zm (cs' := [_, _, _, _, _, _, _, _, _, _, _]) (i := 0) V Wh V V V V V (Ud V) V (Vq (Zb (Zc (Za 19 V V V (Zg V Xi V (Za 20 V V V (Zl (i := 1) V Xd V V V (Za 21 V V V (Zg V tf_110_1 V (Zq V V (Zm (cs' := [_, _, _, _, _, _, _, _, _, _, _]) (i := 0) V ts_9 V V V V V (Ud V) V (Vq (Yn (Yv ?_))))))))))))))))))))
   first
   | (rw [if_pos g17] at hr; exact ⟨(3, tt, 0), ⟨by decide, hr⟩, by4, Vw rfl⟩)
   | (rw [if_neg g17, if_pos g25] at hr; exact ⟨(4, tt, 0), ⟨by decide, hr⟩, by4, Vw rfl⟩)
   | (rw [if_neg g17, if_neg g25, if_pos g33] at hr; exact ⟨(1, kE, tn), ⟨by decide, hr⟩, by4, Vw rfl⟩)
   | (rw [if_neg g17, if_neg g25, if_neg g33, if_pos g41] at hr; exact ⟨(2, tt, 0), ⟨by decide, hr⟩, by4, Vw rfl⟩)
 rintro ⟨kk, ss, nn⟩ hI
 try dsimp only [List.cons_append, List.nil_append] at hI ⊢
 refine Zb (Zf (Zf (Zc (Za 46 V V V (Zg V tf_110_0 V (Za 47 V V V (Zl (i := 0) V Xf V V V (Za 48 V V V (Wv V V V ?_))))))))); intro c48 h48
 refine Vq (Zb ?_)
 rcases Zh h48 with ⟨rfl, g48⟩ | ⟨rfl, g48⟩
 ·omega
 ·refine Zr V (Zf (Zc (Za 49 V V V (Zd V V (Za 50 V V V (Yl V V (Za 51 V V V (Zg V tf_95_1 V (Za 52 V V V (Zl (i := 3) V Xf V V V (Za 53 V V V (Yt V V V (Uh _ (by omega)) ?_))))))))))))
  refine Za 54 V V V (Yl V V (Za 55 V V V (Zg V tf_95_1 V (Zq V V (Zm (i := 3) V Wh V V V V V (Ud V) V (Vq (Zb (Zf (Zc (Za 56 V V V (Zx (cs' := [_, _, _, _, _, _, _, _, _, _, _]) (i := 0) V Wd V V V V (Zq V V (Zm (cs' := [_, _, _, _, _, _, _, _, _, _, _]) (i := 2) V Wn V V V V V (Ud V) V (Vq (Zb (Ya ?_))))))))))))))))
  have h2 := hI.2; subst h2; exact Ym (i := 2) rfl rfl rfl Wd rfl by0 (Vu _ (Vu _ (Vu _ (Vw rfl)))) ⟨rfl, rfl⟩
theorem may_yes {b : Nat} {L : List Tok} (hL : L.length ≤ 100000) {p : PS} {s : ByteArray} (h : isP L p s = true) : MCall Tryz.prog 51 [.ptr b 0, .val (.string s)] (.loc b (psC L p)) (.val (.bool true)) (.loc b (psC L (stepP p))) :=
 (may_c b L hL p s).mono (by
  rintro v M' (⟨_, rfl, rfl⟩ | ⟨q, _, _⟩)
  ·exact ⟨V, V⟩
  ·exact absurd h q)
theorem may_no {b : Nat} {L : List Tok} (hL : L.length ≤ 100000) {p : PS} {s : ByteArray} (h : ¬ isP L p s = true) : MCall Tryz.prog 51 [.ptr b 0, .val (.string s)] (.loc b (psC L p)) (.val (.bool false)) (.loc b (psC L p)) :=
 (may_c b L hL p s).mono (by
  rintro v M' (⟨q, _, _⟩ | ⟨_, rfl, rfl⟩)
  ·exact absurd q h
  ·exact ⟨V, V⟩)
theorem altsL_err {L : List Tok} {E : PS → Ex × PS} {f : Nat} {p : PS} {acc : List Al} (h : p.e ≠ 0) : altsL L E f p acc = (acc, p) := by
 cases f with
 | zero => rfl
 | succ f => rw [altsL, if_pos h]
theorem Al.cellss_app' (a b : List Al) : Al.cellss (a ++ b) = Al.cellss a ++ Al.cellss b := by simp [Al.cellss_map]
theorem Ex.cellss_app' (a b : List Ex) : Ex.cellss (a ++ b) = Ex.cellss a ++ Ex.cellss b := by simp [Ex.cellss_map]
theorem Bi.cellss_app' (a b : List Bi) : Bi.cellss (a ++ b) = Bi.cellss a ++ Bi.cellss b := by simp [Bi.cellss_map]
theorem atom_case (b : Nat) (L : List Tok) (hL : L.length ≤ 100000) (n : Nat) (E : PS → Ex × PS) (HE : ExC b L n E) (HA : ∀ q, POk L n q → Adv L q (E q).2) (p : PS) (k : POk L n p) (h1 : (nxt L p).k ≠ 1) (h2 : (nxt L p).k ≠ 2) (h3 : (nxt L p).k ≠ 3) (h4 : (nxt L p).k ≠ 4) (hc : isP L p kCase = true) : MCall Tryz.prog 124 [.ptr b 0] (.loc b (psC L p)) (.agg (caseG L E (nxt L p).a (stepP p)).1.cells) (.loc b (psC L (caseG L E (nxt L p).a (stepP p)).2)) := by
 have HN := next_c b L p
 have k1 := (Xo k hc).ok k
 have H1 := HE _ k1
 have k2 := (HA _ k1).ok k1
 have H2 := take_c b L hL _ k2.1 6 kOf
 have k3 := (Yo (kind := 6) (s := kOf) (by decide) k2).ok k2
 have k4 := (altsL_adv HA (L.length + 1) _ [] k3).ok k3
 have H4 := take_c b L hL _ k4.1 6 kEnd
 obtain ⟨r, hr⟩ : ∃ r, caseG L E (nxt L p).a (stepP p) = r := ⟨_, rfl⟩
 rw [hr]
 unfold caseG at hr
 simp only [] at hr
 obtain ⟨⟨tk, tt, tn, ta⟩, ht⟩ : ∃ t, nxt L p = t := ⟨_, rfl⟩
 rw [ht] at HN hr h1 h2 h3 h4
 simp only [Tok.av] at HN hr h1 h2 h3 h4
 obtain ⟨⟨⟨xk, xs, xn, ⟨xtk, xts, xtn, xtl⟩, xks, xal, xbs, xp⟩, p2⟩, e2⟩ : ∃ r, E (stepP p) = r := ⟨_, rfl⟩
 rw [e2] at H1 H2 H4 hr k3
 obtain ⟨⟨u3, p3⟩, e3⟩ : ∃ r, takeP L p2 6 kOf = r := ⟨_, rfl⟩
 simp only [] at H2 H4 hr k3
 rw [e3] at H2 H4 hr k3
 simp only [] at H2 H4 hr k3
 obtain ⟨⟨yl, p4⟩, e4⟩ : ∃ r, altsL L E (L.length + 1) p3 [] = r := ⟨_, rfl⟩
 rw [e4] at H4 hr
 simp only [Ex.cells, Ty.cells, List.cons_append, List.nil_append] at H1 H4 hr
 refine Zu Tryz.func124 V (by kernel_rfl) V (Ud V) ?_
 refine Yf (Zf (Zc (Za 2 V V V (Zy (cs' := [_, _, _, _, _, _, _, _, _, _, _]) V Wc V V ?_)))); intro b2
 refine Vq (Zb (Zf (Zc (Za 9 V V V (Zd V V (Za 10 V V V (Ws (xs := [.tmp 9]) [1] V V V (HN) by1 ?_)))))))
 refine Za 3 V V V (Zy (cs' := [_, _, _, _]) V Wj V V ?_); intro b3
 refine Zq V V (Zm (cs' := [_, _, _, _]) (i := 0) V Xk V V V V V (Ud V) V (Vq (Zb (Zf (Zc (Za 11 V V V (Zg V Ww V (Za 12 V V V (Zl (i := 0) V Xf V V V (Za 13 V V V (Yj (ns := [7]) (xs := [.tmp 12]) V Wc V tfl_110 V V V V (Za 4 V V V (Zy (cs' := [_, _, _, _, _, _, _, _, _, _, _]) V Wc V V ?_))))))))))))); intro b4
 refine Zq V V (Zm (cs' := [_, _, _, _, _, _, _, _, _, _, _]) (i := 0) V Wn V V V V V (Ud V) V (Vq (Zb (Zf (Zw (Zf (Zc (Za 15 V V V (Zg V Xe V (Za 16 V V V (Zl (i := 1) V Xf V V V (Za 17 V V V (Yw V V V ?_))))))))))))); intro c17 h17
 refine Za 14 V V V (Ze V V (Vq (Zb ?_)))
 rcases Zh h17 with ⟨rfl, g17⟩ | ⟨rfl, g17⟩
 ·refine Zn V (Zf (Zc (Za 23 V V V (Zg V Xe V (Za 24 V V V (Zl (i := 1) V Xf V V V (Za 25 V V V (Yw V V V ?_)))))))); intro c25 h25
  refine Za 22 V V V (Ze V V (Vq (Zb ?_)))
  rcases Zh h25 with ⟨rfl, g25⟩ | ⟨rfl, g25⟩
  ·refine Zn V (Zf (Zc (Za 31 V V V (Zg V Xe V (Za 32 V V V (Zl (i := 1) V Xf V V V (Za 33 V V V (Yw V V V ?_)))))))); intro c33 h33
   refine Za 30 V V V (Ze V V (Vq (Zb ?_)))
   rcases Zh h33 with ⟨rfl, g33⟩ | ⟨rfl, g33⟩
   ·refine Zn V (Zf (Zc (Za 39 V V V (Zg V Xe V (Za 40 V V V (Zl (i := 1) V Xf V V V (Za 41 V V V (Yw V V V ?_)))))))); intro c41 h41
    refine Za 38 V V V (Ze V V (Vq (Zb ?_)))
    rcases Zh h41 with ⟨rfl, g41⟩ | ⟨rfl, g41⟩
    ·refine Zn V (Zt (Yn (Zb (Zf (Zf (Zc (Za 46 V V V (Zg V tf_110_0 V (Za 47 V V V (Zl (i := 0) V Xf V V V (Za 48 V V V (Wv V V V ?_)))))))))))); intro c48 h48
     refine Vq (Zb ?_)
     rcases Zh h48 with ⟨rfl, g48⟩ | ⟨rfl, g48⟩
     ·refine Zn V (Zt (Zb (Zf (Zf (Zc (Za 57 V V V (Zd V V (Za 58 V V V (Yi (xs := [.tmp 57, .const (.string ⟨#[99, 97, 115, 101]⟩)]) (i := 3) V V V (may_yes hL hc) by1 ?_)))))))))
      refine Vq (Zb (Zr V (Zf (Zc (Za 59 V V V (Zg V tf_110_0 V (Zq V V (Zm (cs' := [_, _, _, _, _, _, _, _, _, _, _]) (i := 0) V Wh V V V V V (Ud V) V (Vq (Zb (Zf (Xu [0, 1, 2, 3, 4, 5, 6, 7] [3, 5, 7] [[], [0], [], [2], [2, 3], [0, 1, 2, 3, 4], [0, 1, 2, 3, 4, 5], [0, 1, 2, 3, 4, 5, 6]] Wk V (Zz 60 (none) (i := 0) V V V V V (Zg V tf_110_4 V ⟨V, V⟩) ?_)))))))))))))
      refine Zz 61 (some 0) (i := 1) V V V V V (Zl (i := 0) V ta_107 V V V ⟨V, V⟩) ?_
      refine Zz 62 (none) (i := 2) V V V V V (Zd V V ⟨V, V⟩) ?_
      refine Xm 3 (i := 3) V V V V V (Yi (xs := [.tmp 62]) (i := 0) V V V (H1) by1 ⟨_, V, ?_⟩)
      refine Zz 64 (none) (i := 4) V V V V V (Yb (xs := [.tmp 63]) el_107 V V V V V V (Ud V) ⟨V, V⟩) ?_
      refine EOps.nw (i := 5) V V V (op_append_nil el_107 V V V (.seq _ _) by6 (fun u65 => ⟨_, V, ?_⟩))
      refine Zz 66 (none) (i := 6) V V V V V (Zg V tf_110_4 V ⟨V, V⟩) ?_
      refine Xm 0 (i := 7) V V V V V (Zm (cs' := [_, _, _, _, _, _, _, _, _, _, _]) (i := 0) V ts_107 V V V V V (Ud V) V ⟨_, V, ?_⟩)
      show AGo _ _ _ _ _ _ _
      refine Zb (Zf (Zc (Za 67 V V V (Zd V V (Za 68 V V V (Yi (xs := [.tmp 67, .const (.int .i64 6), .const (.string ⟨#[111, 102]⟩)]) (i := 3) V V V (H2) by1 ?_))))))
      refine Vq (Zb (Zf (Zc (Za 5 V V V (Ze V V (Vq (Zb (Zf (Zw (Xx 187 16 ?_))))))))))
      apply Xp [1, 5, 6, 9, 10, 11, 12, 13, 14, 15, 16, 17, 18, 19, 20, 21, 22, 23, 24, 25, 26, 27, 28, 29, 30, 31, 32, 33, 34, 35, 36, 37, 38, 39, 40, 41, 42, 43, 44, 45, 46, 47, 48, 49, 50, 51, 52, 53, 54, 55, 56, 57, 58, 59, 60, 61, 62, 63, 64, 65, 66, 67, 68, 69, 70, 71, 72, 73, 74, 75, 76, 77, 78, 79, 80, 81, 82, 83, 84, 85, 86, 87, 88, 89, 90, 91, 92, 94, 97, 128] (σ := PS × Nat × List Al × Value × Bool) (fun zz => match zz with | (q, f, acc, u, mo) => [(5, .val (.bool mo))]) (fun zz => match zz with | (q, f, acc, u, mo) => [.loc b4 [.val (.int .i64 8), .val (.string kE), .val (.int .i64 0), .val (.int .i64 0), .val (.string kE), .val (.int .i64 0), .val (.slice none 0 0), .seq 11 (Ex.cellss [Ex.mk xk xs xn (Ty.mk xtk xts xtn xtl) xks xal xbs xp]), .own u 16 (Al.cellss acc), .val (.slice none 0 0), .val (.int .i64 ta)], .loc b3 (Tok.mk tk tt tn ta).av, .loc b2 zEx, .loc b (psC L q), .own 187 16 u]) (fun zz => match zz with | (q, f, acc, u, mo) => POk L n q ∧ L.length - q.at_ < f ∧ (mo = true → acc.length ≤ q.at_) ∧ (if mo = true then altsL L E f q acc else (acc, q)) = (yl, p4)) (fun zz => match zz with | (q, f, acc, u, mo) => 2 * f + (if mo = true then 1 else 0)) ((p3, L.length + 1, [], .slice none 0 0, true))
      ·repeat' (first | exact Ug | apply Ue rfl | apply Uf rfl)
      ·exact ⟨k3, by omega, fun _ => Nat.zero_le _, e4⟩
      ·exact by4
      ·exact (Vv _ (Vz (Vx _) (Vz (Vx _) (Vz (Vx _) (Vz (Vx _) (Vz (Vx _) (Vz (Vx _) (Vz (Vx _) (Vz (Le.own_seq V) (Vz (Le.nilOwn 16) (Vy _)))))))))) (Vt _ (Vt _ (Vt _ (Vu _ (Vr _))))))
      rintro ⟨q, f, acc, u, mo⟩ hI
      try dsimp only [List.cons_append, List.nil_append] at hI ⊢
      obtain ⟨i1, i2, i3, hu⟩ := hI
      have hq1 := i1.1
      refine Zf (Zf (Xj 76 (mo = true ∧ q.e = 0) ?_ _ _ V ?_))
      ·skip
       refine Za 69 V V V (Zd V V (Za 70 V V V (Zd V V ?_)))
       have h70 : (mo = true ↔ mo = true) := Iff.rfl
       rcases Zh h70 with ⟨rfl, g70⟩ | ⟨rfl, g70⟩
       ·skip
        refine Zi 71 V V V V V (Zi 72 V V V V V (Zi 73 V V V V V (Zi 74 V V V V V (Zi 75 V V V V V (Za 76 V V V (Zo V V V (Vq (Ub V ?_ by5 by3))))))))
        simp_all; done
       ·skip
        refine Zk 71 V V V V V (Zd V V (Zk 72 V V V V V (Yl V V (Zk 73 V V V V V (Zg V Vn V (Zk 74 V V V V V (Zl (i := 3) V Xf V V V (Zk 75 V V V V V (Yw V V V ?_))))))))); intro c75 h75
        refine Za 76 V V V (Zo V V V (Vq (Ub V ?_ by5 by3)))
        simp_all; done
      intro c76 h76
      refine Zb ?_
      rcases Zh h76 with ⟨rfl, g76⟩ | ⟨rfl, g76⟩
      ·refine Zn V (Yy (Xa (Xs (Yz (Zb (Zf ?_))))))
       have hu2 : (acc, q) = (yl, p4) := by
        cases mo with
        | false => exact hu
        | true => rw [if_pos rfl, altsL_err (fun e => g76 ⟨rfl, e⟩)] at hu; exact hu
       simp only [Prod.mk.injEq] at hu2
       obtain ⟨rfl, rfl⟩ := hu2
       refine Zc (Za 93 V V V (Zd V V (Za 94 V V V (Yi (xs := [.tmp 93, .const (.int .i64 6), .const (.string ⟨#[101, 110, 100]⟩)]) (i := 3) V V V (H4) by1 ?_))))
       refine Vq (Zb (Zf (Zc (Za 95 V V V (Zx (cs' := [_, _, _, _, _, _, _, _, _, _, _]) (i := 0) V Wd V V V V (Zq V V (Zm (cs' := [_, _, _, _, _, _, _, _, _, _, _]) (i := 2) V Wn V V V V V (Ud V) V (Vq (Zb (Ya ?_))))))))))
       subst hr; exact Ym (i := 2) rfl rfl rfl Wd rfl by0 (Vu _ (Vu _ (Vu _ (Vt _ (Vs _))))) ⟨rfl, rfl⟩
      ·refine Zr V (Zt (Zb (Zw (Zf ?_))))
       obtain ⟨rfl, hq0⟩ := g76
       have i3 := i3 rfl
       have hle : (Al.cellss acc).length ≤ 200000 := by rw [Al.cellss_len]; omega
       rw [if_pos rfl] at hu
       obtain ⟨f, rfl⟩ : ∃ f', f = f' + 1 := ⟨f - 1, by omega⟩
       rw [altsL, if_neg (by rw [hq0]; simp)] at hu
       have HP := patP_c b L hL n q i1
       have l1 := (patP_adv i1).ok i1
       have b1 := (patP_adv i1).1
       have HQ := take_c b L hL _ l1.1 7 kArrow
       have l2 := (Yo (kind := 7) (s := kArrow) (by decide) l1).ok l1
       have b2 := (Yo (kind := 7) (s := kArrow) (by decide) l1).1
       have HR := HE _ l2
       have l3 := (HA _ l2).ok l2
       have b3 := (HA _ l2).1
       obtain ⟨z, hz⟩ : ∃ z, altG L E q = z := ⟨_, rfl⟩
       rw [hz] at hu
       unfold altG at hz
       obtain ⟨⟨⟨vk, vs, vn, vl, vp⟩, q1⟩, f1⟩ : ∃ r, patP L q = r := ⟨_, rfl⟩
       rw [f1] at HP HQ HR hz l2 l3 b1 b2 b3
       obtain ⟨⟨u5, q2⟩, f2⟩ : ∃ r, takeP L q1 7 kArrow = r := ⟨_, rfl⟩
       simp only [] at HQ HR hz l2 l3 b1 b2 b3
       rw [f2] at HQ HR hz l2 l3 b2 b3
       simp only [] at HQ HR hz l2 l3 b1 b2 b3
       obtain ⟨⟨⟨wk, ws, wn, ⟨wtk, wts, wtn, wtl⟩, wks, wal, wbs, wp⟩, q3⟩, f3⟩ : ∃ r, E q2 = r := ⟨_, rfl⟩
       rw [f3] at HR hz l3 b3
       simp only [Pa.cells, Ex.cells, Ty.cells, List.cons_append, List.nil_append] at HP HR hz l3 b3
       subst hz
       simp only [] at hu
       have l3a := l3.1
       refine Zc (Za 77 V V V (Zd V V (Za 78 V V V (Yi (xs := [.tmp 77]) (i := 3) V V V (HP) by1 ?_))))
       refine Za 79 V V V (Yj (ns := [0]) (xs := [.tmp 78]) V tz_187 V tfl_187 V V V V (Za 6 V V V (Zy (cs' := [_, _, _, _, _, _, _, _, _, _, _, _, _, _, _, _]) V tz_187 V V ?_))); intro b6
       refine Zq V V (Zm (cs' := [_, _, _, _, _, _, _, _, _, _, _, _, _, _, _, _]) (i := 0) V ts_187 V V V V V (Ud V) V (Vq (Zb (Zf (Zc (Za 80 V V V (Zd V V (Za 81 V V V (Yi (xs := [.tmp 80, .const (.int .i64 7), .const (.string ⟨#[45, 62]⟩)]) (i := 4) V V V (HQ) by1 ?_)))))))))
       refine Vq (Zb (Zf (Zc (Za 82 V V V (Zd V V (Za 83 V V V (Yi (xs := [.tmp 82]) (i := 4) V V V (HR) by1 ?_)))))))
       refine Za 84 V V V (Zg V tf_187_1 V (Zq V V (Zm (cs' := [_, _, _, _, _, _, _, _, _, _, _, _, _, _, _, _]) (i := 0) V Wn V V V V V (Ud V) V (Vq (Zb (Zf (Zc (Za 85 V V V (Zg V tf_110_5 V (Za 86 V V V (Zl (i := 1) V ta_108 V V V (Za 87 V V V (Zx (cs' := [_, _, _, _, _, _, _, _, _, _, _, _, _, _, _, _]) (i := 0) V ta_187 V V V V (Za 88 V V V (Yb (xs := [.tmp 87]) el_108 V V V V V V (Ud V) (Za 89 V V V (Xg (i := 5) el_108 V V V V (.seq _ _) by6 ?_)))))))))))))))))
       intro u89
       refine Za 90 V V V (Zg V tf_110_5 V (Zq V V (Zm (cs' := [_, _, _, _, _, _, _, _, _, _, _]) (i := 1) V ts_108 V V V V V (Ud V) V (Vq (Zb (Zc (Za 91 V V V (Zd V V (Za 92 V V V (op_mayc (xs := [.tmp 91, .const (.string ⟨#[124]⟩)]) (i := 4) V V V (may_c b L hL q3 kBar) by1 ?_ ?_))))))))))
       ·intro g92
        refine Za 5 V V V (Ze V V (Vq (Yn (Yv ?_))))
        first
        | (rw [if_pos g92] at hu; have l4 := (Xo l3 g92).ok l3; have l5 := (is_lt g92).2; exact ⟨(stepP q3, f, acc ++ [Al.mk (Pa.mk vk vs vn vl vp) (Ex.mk wk ws wn (Ty.mk wtk wts wtn wtl) wks wal wbs wp)], u89, true), ⟨l4, (by show L.length - (q3.at_ + 1) < f; omega), (fun _ => by show (acc ++ _).length ≤ q3.at_ + 1; rw [List.length_append]; simp; omega), hu⟩, (by show 2 * f + 1 < 2 * (f + 1) + 1; omega), Ua rfl (Vx _) by4, (Vu _ (Vv _ (Vz (Vx _) (Vz (Vx _) (Vz (Vx _) (Vz (Vx _) (Vz (Vx _) (Vz (Vx _) (Vz (Vx _) (Vz (Vx _) (Vz (Uc (by rw [Al.cellss_app']; rfl)) (Vy _)))))))))) (Vt _ (Vt _ (Vw rfl)))))⟩)
        | (rw [if_neg g92] at hu; exact ⟨(q3, f + 1, acc ++ [Al.mk (Pa.mk vk vs vn vl vp) (Ex.mk wk ws wn (Ty.mk wtk wts wtn wtl) wks wal wbs wp)], u89, false), ⟨l3, (by show L.length - q3.at_ < f + 1; omega), (fun h => by cases h), hu⟩, (by show 2 * (f + 1) + 0 < 2 * (f + 1) + 1; omega), Ua rfl (Vx _) by4, (Vu _ (Vv _ (Vz (Vx _) (Vz (Vx _) (Vz (Vx _) (Vz (Vx _) (Vz (Vx _) (Vz (Vx _) (Vz (Vx _) (Vz (Vx _) (Vz (Uc (by rw [Al.cellss_app']; rfl)) (Vy _)))))))))) (Vt _ (Vt _ (Vw rfl)))))⟩)
       ·intro g92
        refine Za 5 V V V (Ze V V (Vq (Yn (Yv ?_))))
        first
        | (rw [if_pos g92] at hu; have l4 := (Xo l3 g92).ok l3; have l5 := (is_lt g92).2; exact ⟨(stepP q3, f, acc ++ [Al.mk (Pa.mk vk vs vn vl vp) (Ex.mk wk ws wn (Ty.mk wtk wts wtn wtl) wks wal wbs wp)], u89, true), ⟨l4, (by show L.length - (q3.at_ + 1) < f; omega), (fun _ => by show (acc ++ _).length ≤ q3.at_ + 1; rw [List.length_append]; simp; omega), hu⟩, (by show 2 * f + 1 < 2 * (f + 1) + 1; omega), Ua rfl (Vx _) by4, (Vu _ (Vv _ (Vz (Vx _) (Vz (Vx _) (Vz (Vx _) (Vz (Vx _) (Vz (Vx _) (Vz (Vx _) (Vz (Vx _) (Vz (Vx _) (Vz (Uc (by rw [Al.cellss_app']; rfl)) (Vy _)))))))))) (Vt _ (Vt _ (Vw rfl)))))⟩)
        | (rw [if_neg g92] at hu; exact ⟨(q3, f + 1, acc ++ [Al.mk (Pa.mk vk vs vn vl vp) (Ex.mk wk ws wn (Ty.mk wtk wts wtn wtl) wks wal wbs wp)], u89, false), ⟨l3, (by show L.length - q3.at_ < f + 1; omega), (fun h => by cases h), hu⟩, (by show 2 * (f + 1) + 0 < 2 * (f + 1) + 1; omega), Ua rfl (Vx _) by4, (Vu _ (Vv _ (Vz (Vx _) (Vz (Vx _) (Vz (Vx _) (Vz (Vx _) (Vz (Vx _) (Vz (Vx _) (Vz (Vx _) (Vz (Vx _) (Vz (Uc (by rw [Al.cellss_app']; rfl)) (Vy _)))))))))) (Vt _ (Vt _ (Vw rfl)))))⟩)
     ·exact absurd g48 (by decide)
    ·exact absurd g41 h4
   ·exact absurd g33 h3
  ·exact absurd g25 h2
 ·exact absurd g17 h1
theorem atom_par (b : Nat) (L : List Tok) (hL : L.length ≤ 100000) (n : Nat) (E : PS → Ex × PS) (HE : ExC b L n E) (HA : ∀ q, POk L n q → Adv L q (E q).2) (p : PS) (k : POk L n p) (h1 : (nxt L p).k ≠ 1) (h2 : (nxt L p).k ≠ 2) (h3 : (nxt L p).k ≠ 3) (h4 : (nxt L p).k ≠ 4) (hc : ¬ isP L p kCase = true) (r : Ex × PS)
    (hr : (if isP L (takeP L p 7 kLP).2 kRP = true then (namE 4 kUnit (nxt L p).a, stepP (takeP L p 7 kLP).2)
     else if (nxt L (takeP L p 7 kLP).2).k = 5 then (namE 3 (takeP L (takeP L p 7 kLP).2 5 kE).1.t (nxt L p).a, (takeP L (takeP L (takeP L p 7 kLP).2 5 kE).2 7 kRP).2)
     else annG L (nxt L p).a (E (takeP L p 7 kLP).2)) = r) : MCall Tryz.prog 124 [.ptr b 0] (.loc b (psC L p)) (.agg r.1.cells) (.loc b (psC L r.2)) := by
 have HN := next_c b L p
 have H1 := take_c b L hL p k.1 7 kLP
 have k1 := (Yo (kind := 7) (s := kLP) (by decide) k).ok k
 obtain ⟨⟨tk, tt, tn, ta⟩, ht⟩ : ∃ t, nxt L p = t := ⟨_, rfl⟩
 rw [ht] at HN hr h1 h2 h3 h4
 simp only [Tok.av] at HN hr h1 h2 h3 h4
 obtain ⟨⟨u1, p1⟩, e1⟩ : ∃ r, takeP L p 7 kLP = r := ⟨_, rfl⟩
 rw [e1] at H1 hr k1
 simp only [] at H1 hr k1
 have HN1 := next_c b L p1
 obtain ⟨⟨qk, qt, qn, qa⟩, ht1⟩ : ∃ t, nxt L p1 = t := ⟨_, rfl⟩
 rw [ht1] at HN1 hr
 have H5 := take_c b L hL p1 k1.1 5 kE
 have k5 := (Yo (kind := 5) (s := kE) (by decide) k1).ok k1
 have HX := HE p1 k1
 have kx := (HA p1 k1).ok k1
 obtain ⟨⟨⟨ok, ot, on, oa⟩, p5⟩, e5⟩ : ∃ r, takeP L p1 5 kE = r := ⟨_, rfl⟩
 rw [e5] at H5 k5 hr
 obtain ⟨⟨⟨xk, xs, xn, ⟨xtk, xts, xtn, xtl⟩, xks, xal, xbs, xp⟩, p2⟩, e2⟩ : ∃ r, E p1 = r := ⟨_, rfl⟩
 rw [e2] at HX kx hr
 unfold annG at hr
 simp only [Tok.av, Ex.cells, Ty.cells, List.cons_append, List.nil_append] at HN1 H5 k5 hr HX kx
 refine Zu Tryz.func124 V (by kernel_rfl) V (Ud V) ?_
 refine Yf (Zf (Zc (Za 2 V V V (Zy (cs' := [_, _, _, _, _, _, _, _, _, _, _]) V Wc V V ?_)))); intro b2
 refine Vq (Zb (Zf (Zc (Za 9 V V V (Zd V V (Za 10 V V V (Ws (xs := [.tmp 9]) [1] V V V (HN) by1 ?_)))))))
 refine Za 3 V V V (Zy (cs' := [_, _, _, _]) V Wj V V ?_); intro b3
 refine Zq V V (Zm (cs' := [_, _, _, _]) (i := 0) V Xk V V V V V (Ud V) V (Vq (Zb (Zf (Zc (Za 11 V V V (Zg V Ww V (Za 12 V V V (Zl (i := 0) V Xf V V V (Za 13 V V V (Yj (ns := [7]) (xs := [.tmp 12]) V Wc V tfl_110 V V V V (Za 4 V V V (Zy (cs' := [_, _, _, _, _, _, _, _, _, _, _]) V Wc V V ?_))))))))))))); intro b4
 refine Zq V V (Zm (cs' := [_, _, _, _, _, _, _, _, _, _, _]) (i := 0) V Wn V V V V V (Ud V) V (Vq (Zb (Zf (Zw (Zf (Zc (Za 15 V V V (Zg V Xe V (Za 16 V V V (Zl (i := 1) V Xf V V V (Za 17 V V V (Yw V V V ?_))))))))))))); intro c17 h17
 refine Za 14 V V V (Ze V V (Vq (Zb ?_)))
 rcases Zh h17 with ⟨rfl, g17⟩ | ⟨rfl, g17⟩
 ·refine Zn V (Zf (Zc (Za 23 V V V (Zg V Xe V (Za 24 V V V (Zl (i := 1) V Xf V V V (Za 25 V V V (Yw V V V ?_)))))))); intro c25 h25
  refine Za 22 V V V (Ze V V (Vq (Zb ?_)))
  rcases Zh h25 with ⟨rfl, g25⟩ | ⟨rfl, g25⟩
  ·refine Zn V (Zf (Zc (Za 31 V V V (Zg V Xe V (Za 32 V V V (Zl (i := 1) V Xf V V V (Za 33 V V V (Yw V V V ?_)))))))); intro c33 h33
   refine Za 30 V V V (Ze V V (Vq (Zb ?_)))
   rcases Zh h33 with ⟨rfl, g33⟩ | ⟨rfl, g33⟩
   ·refine Zn V (Zf (Zc (Za 39 V V V (Zg V Xe V (Za 40 V V V (Zl (i := 1) V Xf V V V (Za 41 V V V (Yw V V V ?_)))))))); intro c41 h41
    refine Za 38 V V V (Ze V V (Vq (Zb ?_)))
    rcases Zh h41 with ⟨rfl, g41⟩ | ⟨rfl, g41⟩
    ·refine Zn V (Zt (Yn (Zb (Zf (Zf (Zc (Za 46 V V V (Zg V tf_110_0 V (Za 47 V V V (Zl (i := 0) V Xf V V V (Za 48 V V V (Wv V V V ?_)))))))))))); intro c48 h48
     refine Vq (Zb ?_)
     rcases Zh h48 with ⟨rfl, g48⟩ | ⟨rfl, g48⟩
     ·refine Zn V (Zt (Zb (Zf (Zf (Zc (Za 57 V V V (Zd V V (Za 58 V V V (Yi (xs := [.tmp 57, .const (.string ⟨#[99, 97, 115, 101]⟩)]) (i := 3) V V V (may_no hL hc) by1 ?_)))))))))
      refine Vq (Zb (Zn V (Zt (Zb (Zf (Zc (Za 96 V V V (Zd V V (Za 97 V V V (Yi (xs := [.tmp 96, .const (.int .i64 7), .const (.string ⟨#[40]⟩)]) (i := 3) V V V (H1) by1 ?_))))))))))
      refine Vq (Zb (Zf (Zf (Zc (Za 98 V V V (Zd V V (Za 99 V V V (op_mayc (xs := [.tmp 98, .const (.string ⟨#[41]⟩)]) (i := 3) V V V (may_c b L hL p1 kRP) by1 ?_ ?_))))))))
      ·intro g99
       refine Vq (Zb (Zr V (Zf (Zc (Za 100 V V V (Zg V Ww V (Za 101 V V V (Zl (i := 1) V Xf V V V (Za 102 V V V (Yj (ns := [0, 1, 7]) (xs := [.const (.int .i64 4), .const (.string ⟨#[85, 110, 105, 116]⟩), .tmp 101]) V Wc V tfl_110 V V V V ?_))))))))))
       refine Zq V V (Zm (cs' := [_, _, _, _, _, _, _, _, _, _, _]) (i := 2) V Wn V V V V V (Ud V) V (Vq (Zb (Ya ?_))))
       rw [if_pos g99] at hr; subst hr; exact Ym (i := 2) rfl rfl rfl Wd rfl by0 (Vu _ (Vu _ (Vu _ (Vw rfl)))) ⟨rfl, rfl⟩
      ·intro g99
       refine Vq (Zb (Zn V (Zt (Zb (Zf (Zf (Zc (Za 103 V V V (Zd V V (Za 104 V V V (Ws (xs := [.tmp 103]) [3] V V V (HN1) by1 ?_)))))))))))
       refine Za 105 V V V (Vb (ft := 3) (fo := 0) V (by kernel_rfl) Xf V V ?_)
       refine Za 106 V V V (Yw V V V ?_); intro c106 h106
       refine Vq (Zb ?_)
       rcases Zh h106 with ⟨rfl, g106⟩ | ⟨rfl, g106⟩
       ·refine Zn V (Zt (Zb (Zf (Zc (Za 116 V V V (Zd V V (Za 117 V V V (Yi (xs := [.tmp 116]) (i := 3) V V V (HX) by1 ?_))))))))
        refine Za 8 V V V (Zy (cs' := [_, _, _, _, _, _, _, _, _, _, _]) V Wc V V ?_); intro b8
        refine Zq V V (Zm (cs' := [_, _, _, _, _, _, _, _, _, _, _]) (i := 0) V Wn V V V V V (Ud V) V (Vq (Zb (Zf (Zf ?_)))))
        rw [if_neg g99, if_neg g106] at hr
        refine Zc (Za 118 V V V (Zd V V (Za 119 V V V (op_mayc (xs := [.tmp 118, .const (.string ⟨#[58]⟩)]) (i := 4) V V V (may_c b L hL p2 kColon) by1 ?_ ?_))))
        ·intro g119
         refine Vq (Zb (Zr V ?_))
         have ka := (Xo kx g119).ok kx
         have HT := typeP_c b L hL n _ ka
         have k8 := (typeP_adv ka).ok ka
         have H8 := take_c b L hL _ k8.1 7 kRP
         rw [if_pos g119] at hr
         obtain ⟨⟨⟨wk, ws, wn, wl⟩, p3⟩, e3⟩ : ∃ r, typeP L (stepP p2) = r := ⟨_, rfl⟩
         rw [e3] at HT H8 hr
         simp only [Ty.cells] at HT H8 hr
         refine Xu [0, 2, 3, 4, 5, 1, 6, 7] [1, 7] [[], [0], [], [2], [], [4], [0, 1, 2, 3, 4, 5], [0, 1, 2, 3, 4, 5, 6]] Wk V (Zz 120 (none) (i := 0) V V V V V (Zd V V ⟨V, V⟩) ?_)
         refine Zz 122 (some 0) (i := 2) V V V V V (Zx (cs' := [_, _, _, _, _, _, _, _, _, _, _]) (i := 0) V Wd V V V V ⟨V, V⟩) ?_
         refine Zz 123 (none) (i := 3) V V V V V (Yb (xs := [.tmp 122]) el_107 V V V V V V (Ud V) ⟨V, V⟩) ?_
         refine Zz 124 (none) (i := 4) V V V V V (Zg V Ww V ⟨V, V⟩) ?_
         refine Zz 125 (some 2) (i := 5) V V V V V (Zl (i := 0) V Xf V V V ⟨V, V⟩) ?_
         refine Xm 4 (i := 1) V V V V V (Yi (xs := [.tmp 120]) (i := 0) V V V (HT) by1 ⟨_, V, ?_⟩)
         refine Zz 126 (none) (i := 6) V V V V V (Yj (ns := [0, 3, 4, 7]) (xs := [.const (.int .i64 12), .tmp 121, .tmp 123, .tmp 125]) V Wc V tfl_110 V V V V ⟨V, V⟩) ?_
         refine Xm 0 (i := 7) V V V V V (Zm (cs' := [_, _, _, _, _, _, _, _, _, _, _]) (i := 0) V Wn V V V V V (Ud V) V ⟨_, V, ?_⟩)
         show AGo _ _ _ _ _ _ _
         refine Zb (Zf ?_)
         first | have H9 := H8 | have H9 := take_c b L hL p2 kx.1 7 kRP
         refine Zc (Za 127 V V V (Zd V V (Za 128 V V V (Yi (xs := [.tmp 127, .const (.int .i64 7), .const (.string ⟨#[41]⟩)]) (i := 4) V V V (H9) by1 ?_))))
         refine Vq (Zb (Zf (Zc (Za 129 V V V (Zx (cs' := [_, _, _, _, _, _, _, _, _, _, _]) (i := 0) V Wd V V V V (Zq V V (Zm (cs' := [_, _, _, _, _, _, _, _, _, _, _]) (i := 3) V Wn V V V V V (Ud V) V (Vq (Zb (Ya ?_))))))))))
         subst hr; exact Ym (i := 3) rfl rfl rfl Wd rfl by0 (Vu _ (Vu _ (Vu _ (Vu _ (Vw rfl))))) ⟨rfl, rfl⟩
        ·intro g119
         refine Vq (Zb (Zn V (Zt (Zb (Zf ?_)))))
         first | have H9 := H8 | have H9 := take_c b L hL p2 kx.1 7 kRP
         refine Zc (Za 127 V V V (Zd V V (Za 128 V V V (Yi (xs := [.tmp 127, .const (.int .i64 7), .const (.string ⟨#[41]⟩)]) (i := 4) V V V (H9) by1 ?_))))
         refine Vq (Zb (Zf (Zc (Za 129 V V V (Zx (cs' := [_, _, _, _, _, _, _, _, _, _, _]) (i := 0) V Wd V V V V (Zq V V (Zm (cs' := [_, _, _, _, _, _, _, _, _, _, _]) (i := 3) V Wn V V V V V (Ud V) V (Vq (Zb (Ya ?_))))))))))
         rw [if_neg g119] at hr; subst hr; exact Ym (i := 3) rfl rfl rfl Wd rfl by0 (Vu _ (Vu _ (Vu _ (Vu _ (Vw rfl))))) ⟨rfl, rfl⟩
       ·refine Zr V (Zf (Zc (Za 107 V V V (Zd V V (Za 108 V V V (Yi (xs := [.tmp 107, .const (.int .i64 5), .const (.string ⟨#[]⟩)]) (i := 3) V V V (H5) by1 ?_))))))
        refine Za 7 V V V (Zy (cs' := [_, _, _, _]) V Wj V V ?_); intro b7
        refine Zq V V (Zm (cs' := [_, _, _, _]) (i := 0) V Xk V V V V V (Ud V) V (Vq (Zb (Zf (Zc (Za 109 V V V (Zd V V (Za 110 V V V (Yi (xs := [.tmp 109, .const (.int .i64 7), .const (.string ⟨#[41]⟩)]) (i := 4) V V V (take_c b L hL p5 k5.1 7 kRP) by1 ?_)))))))))
        refine Vq (Zb (Zf (Zc (Za 111 V V V (Zg V Xi V (Za 112 V V V (Zl (i := 0) V Xd V V V (Za 113 V V V (Zg V Ww V (Za 114 V V V (Zl (i := 2) V Xf V V V (Za 115 V V V (Yj (ns := [0, 1, 7]) (xs := [.const (.int .i64 3), .tmp 112, .tmp 114]) V Wc V tfl_110 V V V V (Zq V V (Zm (cs' := [_, _, _, _, _, _, _, _, _, _, _]) (i := 3) V Wn V V V V V (Ud V) V (Vq (Zb (Ya ?_))))))))))))))))))
        rw [if_neg g99, if_pos g106] at hr; subst hr; exact Ym (i := 3) rfl rfl rfl Wd rfl by0 (Vu _ (Vu _ (Vu _ (Vu _ (Vw rfl))))) ⟨rfl, rfl⟩
     ·exact absurd g48 (by decide)
    ·exact absurd g41 h4
   ·exact absurd g33 h3
  ·exact absurd g25 h2
 ·exact absurd g17 h1
theorem atom_c (b : Nat) (L : List Tok) (hL : L.length ≤ 100000) (n : Nat) (E : PS → Ex × PS) (HE : ExC b L n E) (HA : ∀ q, POk L n q → Adv L q (E q).2) (p : PS) (k : POk L n p) : MCall Tryz.prog 124 [.ptr b 0] (.loc b (psC L p)) (.agg (atomG L E p).1.cells) (.loc b (psC L (atomG L E p).2)) := by
 by_cases h1 : (nxt L p).k = 1
 ·exact atom_lit b L hL n E p k (.inl h1)
 by_cases h2 : (nxt L p).k = 2
 ·exact atom_lit b L hL n E p k (.inr (.inl h2))
 by_cases h3 : (nxt L p).k = 3
 ·exact atom_lit b L hL n E p k (.inr (.inr (.inl h3)))
 by_cases h4 : (nxt L p).k = 4
 ·exact atom_lit b L hL n E p k (.inr (.inr (.inr h4)))
 by_cases h5 : isP L p kCase = true
 ·rw [atomG, if_neg h1, if_neg h2, if_neg h3, if_neg h4, if_pos h5]; exact atom_case b L hL n E HE HA p k h1 h2 h3 h4 h5
 ·exact atom_par b L hL n E HE HA p k h1 h2 h3 h4 h5 _ (by rw [atomG, if_neg h1, if_neg h2, if_neg h3, if_neg h4, if_neg h5])
theorem may_eq {b : Nat} {L : List Tok} (hL : L.length ≤ 100000) {p : PS} {s : ByteArray} {c : Bool} (h : isP L p s = c) : MCall Tryz.prog 51 [.ptr b 0, .val (.string s)] (.loc b (psC L p)) (.val (.bool c)) (.loc b (psC L (if c = true then stepP p else p))) := by
 cases c with
 | true => exact may_yes hL h
 | false => exact may_no hL (by rw [h]; simp)
theorem operand_lam (b : Nat) (L : List Tok) (hL : L.length ≤ 100000) (n : Nat) (E : PS → Ex × PS) (HE : ExC b L n E) (p : PS) (k : POk L n p) (h1 : isP L p kBack = true) : MCall Tryz.prog 105 [.ptr b 0] (.loc b (psC L p)) (.agg (lambdaG L E (L.length + 1) (stepP p) (nxt L p).a).1.cells) (.loc b (psC L (lambdaG L E (L.length + 1) (stepP p) (nxt L p).a).2)) := by
 have HN := next_c b L p
 have HL := lambda_c b L hL n E HE (L.length + 1) (stepP p) (nxt L p).a ((Xo k h1).ok k) (by omega)
 obtain ⟨⟨tk, tt, tn, ta⟩, ht⟩ : ∃ t, nxt L p = t := ⟨_, rfl⟩
 rw [ht] at HN HL ⊢
 simp only [Tok.av] at HN HL ⊢
 obtain ⟨⟨⟨xk, xs, xn, ⟨xtk, xts, xtn, xtl⟩, xks, xal, xbs, xp⟩, p3⟩, e3⟩ : ∃ r, lambdaG L E (L.length + 1) (stepP p) ta = r := ⟨_, rfl⟩
 rw [e3] at HL ⊢
 simp only [Ex.cells, Ty.cells, List.cons_append, List.nil_append] at HL ⊢
 refine Zu Tryz.func105 V (by kernel_rfl) V (Ud V) ?_
 refine Yf (Zf (Zc (Za 2 V V V (Zy (cs' := [_, _, _, _, _, _, _, _, _, _, _]) V Wc V V ?_)))); intro b2
 refine Vq (Zb (Zf (Zc (Za 9 V V V (Zd V V (Za 10 V V V (Ws (xs := [.tmp 9]) [1] V V V (HN) by1 ?_)))))))
 refine Za 3 V V V (Zy (cs' := [_, _, _, _]) V Wj V V ?_); intro b3
 refine Zq V V (Zm (cs' := [_, _, _, _]) (i := 0) V Xk V V V V V (Ud V) V (Vq (Zb (Zf (Zf (Zc (Za 11 V V V (Zd V V (Za 12 V V V (Yi (xs := [.tmp 11, .const (.string ⟨#[92]⟩)]) (i := 2) V V V (may_yes hL h1) by1 ?_))))))))))
 refine Vq (Zb (Zr V (Zf (Zc (Za 13 V V V (Zd V V (Za 14 V V V (Zg V Ww V (Za 15 V V V (Zl (i := 0) V Xf V V V (Za 16 V V V (Yi (xs := [.tmp 13, .tmp 15]) (i := 2) V V V (HL) by1 ?_))))))))))))
 exact Zq V V (Zm (cs' := [_, _, _, _, _, _, _, _, _, _, _]) (i := 1) V Wn V V V V V (Ud V) V (Vq (Zb (Ya (Ym (i := 1) V V V Wd V (Vx _) (Vu _ (Vu _ (Vw V))) ⟨V, V⟩)))))
theorem bindsL_go {L : List Tok} {E : PS → Ex × PS} {f : Nat} {p : PS} {acc : List Bi} (h : isP L p kAnd = true) : bindsL L E (f + 1) p acc = bindsL L E f (bindG L E (stepP p)).2 (acc ++ [(bindG L E (stepP p)).1]) := by rw [bindsL, if_pos h]
theorem bindsL_end {L : List Tok} {E : PS → Ex × PS} {f : Nat} {p : PS} {acc : List Bi} (h : ¬ isP L p kAnd = true) : bindsL L E f p acc = (acc, p) := by
 cases f with
 | zero => rfl
 | succ f => rw [bindsL, if_neg h]
theorem operand_let (b : Nat) (L : List Tok) (hL : L.length ≤ 100000) (n : Nat) (E : PS → Ex × PS) (HE : ExC b L n E) (HA : ∀ q, POk L n q → Adv L q (E q).2) (p : PS) (k : POk L n p) (h1 : ¬ isP L p kBack = true) (h2 : isP L p kLet = true) (c23 : Bool) (h3 : isP L (stepP p) kRec = c23) (r : Ex × PS) (hr : letG L E (nxt L p).a (if c23 = true then 1 else 0) (if c23 = true then stepP (stepP p) else stepP p) = r) : MCall Tryz.prog 105 [.ptr b 0] (.loc b (psC L p)) (.agg r.1.cells) (.loc b (psC L r.2)) := by
 have HN := next_c b L p
 have k1 := (Xo k h2).ok k
 have HM := may_eq (b := b) hL h3
 have kq : POk L n (if c23 = true then stepP (stepP p) else stepP p) := by
  cases c23 with
  | true => exact (Xo k1 h3).ok k1
  | false => exact k1
 obtain ⟨⟨tk, tt, tn, ta⟩, ht⟩ : ∃ t, nxt L p = t := ⟨_, rfl⟩
 rw [ht] at HN hr
 simp only [Tok.av] at HN hr
 obtain ⟨p2, hp2⟩ : ∃ q, (if c23 = true then stepP (stepP p) else stepP p) = q := ⟨_, rfl⟩
 rw [hp2] at HM hr kq
 unfold letG at hr
 simp only [] at hr
 have HB := bind_c b L hL n E HE p2 kq
 have k3 := (bindG_adv HA kq).ok kq
 obtain ⟨⟨⟨bn, ⟨xk, xs, xn, ⟨xtk, xts, xtn, xtl⟩, xks, xal, xbs, xp⟩, bp⟩, p3⟩, e3⟩ : ∃ r, bindG L E p2 = r := ⟨_, rfl⟩
 rw [e3] at HB hr k3
 have k4 := (bindsL_adv HA (L.length + 1) p3 [Bi.mk bn (Ex.mk xk xs xn (Ty.mk xtk xts xtn xtl) xks xal xbs xp) bp] k3).ok k3
 obtain ⟨⟨bl, p4⟩, e4⟩ : ∃ r, bindsL L E (L.length + 1) p3 [Bi.mk bn (Ex.mk xk xs xn (Ty.mk xtk xts xtn xtl) xks xal xbs xp) bp] = r := ⟨_, rfl⟩
 simp only [] at hr k3
 rw [e4] at hr k4
 simp only [] at hr k4
 have H4 := take_c b L hL p4 k4.1 6 kIn
 have k5 := (Yo (kind := 6) (s := kIn) (by decide) k4).ok k4
 obtain ⟨⟨u5, p5⟩, e5⟩ : ∃ r, takeP L p4 6 kIn = r := ⟨_, rfl⟩
 rw [e5] at hr k5 H4
 simp only [] at hr k5 H4
 have HX := HE p5 k5
 obtain ⟨⟨⟨yk, ys, yn, ⟨ytk, yts, ytn, ytl⟩, yks, yal, ybs, yp⟩, p6⟩, e6⟩ : ∃ r, E p5 = r := ⟨_, rfl⟩
 rw [e6] at HX hr
 simp only [Bi.cells, Ex.cells, Ty.cells, List.cons_append, List.nil_append] at HB HX hr
 refine Zu Tryz.func105 V (by kernel_rfl) V (Ud V) ?_
 refine Yf (Zf (Zc (Za 2 V V V (Zy (cs' := [_, _, _, _, _, _, _, _, _, _, _]) V Wc V V ?_)))); intro b2
 refine Vq (Zb (Zf (Zc (Za 9 V V V (Zd V V (Za 10 V V V (Ws (xs := [.tmp 9]) [1] V V V (HN) by1 ?_)))))))
 refine Za 3 V V V (Zy (cs' := [_, _, _, _]) V Wj V V ?_); intro b3
 refine Zq V V (Zm (cs' := [_, _, _, _]) (i := 0) V Xk V V V V V (Ud V) V (Vq (Zb (Zf (Zf (Zc (Za 11 V V V (Zd V V (Za 12 V V V (Yi (xs := [.tmp 11, .const (.string ⟨#[92]⟩)]) (i := 2) V V V (may_no hL h1) by1 ?_))))))))))
 refine Vq (Zb (Zn V (Zt (Zb (Zf (Zf (Zc (Za 17 V V V (Zd V V (Za 18 V V V (Yi (xs := [.tmp 17, .const (.string ⟨#[108, 101, 116]⟩)]) (i := 2) V V V (may_yes hL h2) by1 ?_)))))))))))
 refine Vq (Zb (Zr V (Zf (Zc (Za 19 V V V (Zg V Ww V (Za 20 V V V (Zl (i := 0) V Xf V V V (Za 21 V V V (Yj (ns := [0, 7]) (xs := [.const (.int .i64 7), .tmp 20]) V Wc V tfl_110 V V V V (Za 4 V V V (Zy (cs' := [_, _, _, _, _, _, _, _, _, _, _]) V Wc V V ?_)))))))))))); intro b4
 refine Zq V V (Zm (cs' := [_, _, _, _, _, _, _, _, _, _, _]) (i := 0) V Wn V V V V V (Ud V) V (Vq (Zb (Zf (Zf (Zc (Za 22 V V V (Zd V V (Za 23 V V V (Yi (xs := [.tmp 22, .const (.string ⟨#[114, 101, 99]⟩)]) (i := 3) V V V (HM) by1 ?_))))))))))
 refine Vq (Zb ?_)
 apply c_joink [1, 9, 10, 11, 12, 13, 14, 15, 16, 17, 18, 19, 20, 21, 22, 23, 24, 42, 56, 60] (σ := Unit) (fun zz => match zz with | z => []) (fun zz => match zz with | z => [.loc b4 [.val (.int .i64 7), .val (.string kE), .val (.int .i64 (if c23 = true then 1 else 0)), .val (.int .i64 0), .val (.string kE), .val (.int .i64 0), .val (.slice none 0 0), .val (.slice none 0 0), .val (.slice none 0 0), .val (.slice none 0 0), .val (.int .i64 ta)], .loc b3 (Tok.mk tk tt tn ta).av, .loc b2 zEx, .loc b (psC L p2)]) (fun zz => match zz with | z => True)
 ·repeat' (first | exact Ug | apply Ue rfl | apply Uf rfl)
 ·skip
  rcases c23 with _ | _
  ·refine Zn V (Zt (Yv ?_))
   exact ⟨(), trivial, by4, Vw V⟩
  ·refine Zr V (Zc (Za 24 V V V (Zg V tf_110_2 V (Zq V V (Zm (cs' := [_, _, _, _, _, _, _, _, _, _, _]) (i := 0) V ts_2 V V V V V (Ud V) V (Vq (Yv ?_)))))))
   exact ⟨(), trivial, by4, Vw V⟩
 rintro z hI
 try dsimp only [List.cons_append, List.nil_append] at hI ⊢
 refine Zb (Zf (Xu [0, 1, 2, 3, 4, 5, 6, 7] [3, 5, 7] [[], [0], [], [2], [2, 3], [0, 1, 2, 3, 4], [0, 1, 2, 3, 4, 5], [0, 1, 2, 3, 4, 5, 6]] Wk V (Zz 25 (none) (i := 0) V V V V V (Zg V tf_110_6 V ⟨V, V⟩) ?_)))
 refine Zz 26 (some 0) (i := 1) V V V V V (Zl (i := 0) V ta_53 V V V ⟨V, V⟩) ?_
 refine Zz 27 (none) (i := 2) V V V V V (Zd V V ⟨V, V⟩) ?_
 refine Xm 3 (i := 3) V V V V V (Yi (xs := [.tmp 27]) (i := 0) V V V (HB) by1 ⟨_, V, ?_⟩)
 refine Zz 29 (none) (i := 4) V V V V V (Yb (xs := [.tmp 28]) el_53 V V V V V V (Ud V) ⟨V, V⟩) ?_
 refine EOps.nw (i := 5) V V V (op_append_nil el_53 V V V (.seq _ _) by6 (fun u30 => ⟨_, V, ?_⟩))
 refine Zz 31 (none) (i := 6) V V V V V (Zg V tf_110_6 V ⟨V, V⟩) ?_
 refine Xm 0 (i := 7) V V V V V (Zm (cs' := [_, _, _, _, _, _, _, _, _, _, _]) (i := 0) V ts_53 V V V V V (Ud V) V ⟨_, V, ?_⟩)
 show AGo _ _ _ _ _ _ _
 refine Zb (Zf (Zw ?_))
 apply Xp [1, 9, 10, 11, 12, 13, 14, 15, 16, 17, 18, 19, 20, 21, 22, 23, 24, 25, 26, 27, 28, 29, 30, 31, 32, 33, 34, 35, 36, 37, 38, 39, 40, 42, 56, 60] (σ := PS × Nat × List Bi × Value) (fun zz => match zz with | (q, f, acc, u) => []) (fun zz => match zz with | (q, f, acc, u) => [.loc b4 [.val (.int .i64 7), .val (.string kE), .val (.int .i64 (if c23 = true then 1 else 0)), .val (.int .i64 0), .val (.string kE), .val (.int .i64 0), .val (.slice none 0 0), .val (.slice none 0 0), .val (.slice none 0 0), .own u 13 (Bi.cellss acc), .val (.int .i64 ta)], .loc b3 (Tok.mk tk tt tn ta).av, .loc b2 zEx, .loc b (psC L q), .own 112 13 u]) (fun zz => match zz with | (q, f, acc, u) => POk L n q ∧ L.length - q.at_ < f ∧ acc.length ≤ q.at_ + 1 ∧ bindsL L E f q acc = (bl, p4)) (fun zz => match zz with | (q, f, acc, u) => f) ((p3, L.length + 1, [Bi.mk bn (Ex.mk xk xs xn (Ty.mk xtk xts xtn xtl) xks xal xbs xp) bp], u30))
 ·repeat' (first | exact Ug | apply Ue rfl | apply Uf rfl)
 ·exact ⟨k3, by omega, by simp, e4⟩
 ·exact by4
 ·exact (Vw V)
 rintro ⟨q, f, acc, u⟩ hI
 try dsimp only [List.cons_append, List.nil_append] at hI ⊢
 obtain ⟨i1, i2, i3, hu⟩ := hI
 have hq1 := i1.1
 have hle : (Bi.cellss acc).length ≤ 200000 := by rw [Bi.cellss_len]; omega
 refine Zf (Zf (Zc (Za 32 V V V (Zd V V (Za 33 V V V (op_mayc (xs := [.tmp 32, .const (.string ⟨#[97, 110, 100]⟩)]) (i := 3) V V V (may_c b L hL q kAnd) by1 ?_ ?_))))))
 ·intro g33
  refine Vq (Zb (Zr V (Zt (Zb (Zw ?_)))))
  obtain ⟨f, rfl⟩ : ∃ f', f = f' + 1 := ⟨f - 1, by omega⟩
  rw [bindsL_go g33] at hu
  have l1 := (Xo i1 g33).ok i1
  have l2 := (bindG_adv HA l1).ok l1
  have b2' : (stepP q).at_ ≤ _ := (bindG_adv HA l1).1
  have b4' : (stepP q).at_ = q.at_ + 1 := rfl
  have b5' := (is_lt g33).2
  have HB2 := bind_c b L hL n E HE _ l1
  obtain ⟨⟨⟨cn, ⟨wk, ws, wn, ⟨wtk, wts, wtn, wtl⟩, wks, wal, wbs, wp⟩, cp⟩, q2⟩, f2⟩ : ∃ r, bindG L E (stepP q) = r := ⟨_, rfl⟩
  rw [f2] at HB2 hu l2 b2'
  simp only [Bi.cells, Ex.cells, Ty.cells, List.cons_append, List.nil_append] at HB2 hu l2 b2'
  have l3 := l2.1
  refine Xu [0, 1, 2, 3, 4, 5, 6, 7] [3, 5, 7] [[], [0], [], [2], [2, 3], [0, 1, 2, 3, 4], [0, 1, 2, 3, 4, 5], [0, 1, 2, 3, 4, 5, 6]] Wk V (Zz 34 (none) (i := 0) V V V V V (Zg V tf_110_6 V ⟨V, V⟩) ?_)
  refine Zz 35 (some 0) (i := 1) V V V V V (Zl (i := 0) V ta_53 V V V ⟨V, V⟩) ?_
  refine Zz 36 (none) (i := 2) V V V V V (Zd V V ⟨V, V⟩) ?_
  refine Xm 3 (i := 3) V V V V V (Yi (xs := [.tmp 36]) (i := 0) V V V (HB2) by1 ⟨_, V, ?_⟩)
  refine Zz 38 (none) (i := 4) V V V V V (Yb (xs := [.tmp 37]) el_53 V V V V V V (Ud V) ⟨V, V⟩) ?_
  refine Xm 4 (i := 5) V V V V V (Xg (i := 0) el_53 V V V V (.seq _ _) by6 (fun u39 => ⟨_, V, ?_⟩))
  refine Zz 40 (none) (i := 6) V V V V V (Zg V tf_110_6 V ⟨V, V⟩) ?_
  refine Xm 0 (i := 7) V V V V V (Zm (cs' := [_, _, _, _, _, _, _, _, _, _, _]) (i := 0) V ts_53 V V V V V (Ud V) V ⟨_, V, ?_⟩)
  show AGo _ _ _ _ _ _ _
  refine Yn (Yv ?_)
  refine ⟨(q2, f, acc ++ [Bi.mk cn (Ex.mk wk ws wn (Ty.mk wtk wts wtn wtl) wks wal wbs wp) cp], u39), ⟨l2, (by show L.length - q2.at_ < f; omega), (by show (acc ++ [Bi.mk cn (Ex.mk wk ws wn (Ty.mk wtk wts wtn wtl) wks wal wbs wp) cp]).length ≤ q2.at_ + 1; rw [List.length_append]; simp; omega), hu⟩, Nat.lt_succ_self f, by4, (Vv _ (Vz (Vx _) (Vz (Vx _) (Vz (Vx _) (Vz (Vx _) (Vz (Vx _) (Vz (Vx _) (Vz (Vx _) (Vz (Vx _) (Vz (Vx _) (Vz (Uc by10) (Vy _))))))))))) (Vt _ (Vt _ (Vw V))))⟩
 ·intro g33
  refine Vq (Zb (Zn V (Yy (Xa (Xs (Yz (Zb (Zf ?_))))))))
  rw [bindsL_end g33] at hu
  simp only [Prod.mk.injEq] at hu
  obtain ⟨rfl, rfl⟩ := hu
  refine Zc (Za 41 V V V (Zd V V (Za 42 V V V (Yi (xs := [.tmp 41, .const (.int .i64 6), .const (.string ⟨#[105, 110]⟩)]) (i := 3) V V V (H4) by1 ?_))))
  refine Vq (Zb (Zf (Xu [0, 1, 2, 3, 4, 5, 6, 7] [3, 5, 7] [[], [0], [], [2], [2, 3], [0, 1, 2, 3, 4], [0, 1, 2, 3, 4, 5], [0, 1, 2, 3, 4, 5, 6]] Wk V (Zz 43 (none) (i := 0) V V V V V (Zg V tf_110_4 V ⟨V, V⟩) ?_))))
  refine Zz 44 (some 0) (i := 1) V V V V V (Zl (i := 0) V ta_107 V V V ⟨V, V⟩) ?_
  refine Zz 45 (none) (i := 2) V V V V V (Zd V V ⟨V, V⟩) ?_
  refine Xm 3 (i := 3) V V V V V (Yi (xs := [.tmp 45]) (i := 0) V V V (HX) by1 ⟨_, V, ?_⟩)
  refine Zz 47 (none) (i := 4) V V V V V (Yb (xs := [.tmp 46]) el_107 V V V V V V (Ud V) ⟨V, V⟩) ?_
  refine EOps.nw (i := 5) V V V (op_append_nil el_107 V V V (.seq _ _) by6 (fun u48 => ⟨_, V, ?_⟩))
  refine Zz 49 (none) (i := 6) V V V V V (Zg V tf_110_4 V ⟨V, V⟩) ?_
  refine Xm 0 (i := 7) V V V V V (Zm (cs' := [_, _, _, _, _, _, _, _, _, _, _]) (i := 0) V ts_107 V V V V V (Ud V) V ⟨_, V, ?_⟩)
  show AGo _ _ _ _ _ _ _
  refine Zb (Zf (Zc (Za 50 V V V (Zx (cs' := [_, _, _, _, _, _, _, _, _, _, _]) (i := 0) V Wd V V V V (Zq V V (Zm (cs' := [_, _, _, _, _, _, _, _, _, _, _]) (i := 2) V Wn V V V V V (Ud V) V (Vq (Zb (Ya ?_)))))))))
  subst hr; exact Ym (i := 2) rfl rfl rfl Wd rfl by0 (Vu _ (Vu _ (Vu _ (Vt _ (Vs _))))) ⟨rfl, rfl⟩
theorem operand_if (b : Nat) (L : List Tok) (hL : L.length ≤ 100000) (n : Nat) (E : PS → Ex × PS) (HE : ExC b L n E) (HA : ∀ q, POk L n q → Adv L q (E q).2) (p : PS) (k : POk L n p) (h1 : ¬ isP L p kBack = true) (h2 : ¬ isP L p kLet = true) (h3 : isP L p kIf = true) : MCall Tryz.prog 105 [.ptr b 0] (.loc b (psC L p)) (.agg (ifG L E (nxt L p).a (stepP p)).1.cells) (.loc b (psC L (ifG L E (nxt L p).a (stepP p)).2)) := by
 have HN := next_c b L p
 obtain ⟨r, hr⟩ : ∃ r, ifG L E (nxt L p).a (stepP p) = r := ⟨_, rfl⟩
 rw [hr]
 unfold ifG at hr
 simp only [] at hr
 obtain ⟨⟨tk, tt, tn, ta⟩, ht⟩ : ∃ t, nxt L p = t := ⟨_, rfl⟩
 rw [ht] at HN hr
 simp only [Tok.av] at HN hr
 have k1 := (Xo k h3).ok k
 have H1 := HE _ k1
 have k2 := (HA _ k1).ok k1
 obtain ⟨⟨⟨xk, xs, xn, ⟨xtk, xts, xtn, xtl⟩, xks, xal, xbs, xp⟩, p2⟩, e2⟩ : ∃ r, E (stepP p) = r := ⟨_, rfl⟩
 rw [e2] at H1 k2 hr
 simp only [] at k2 hr
 have H2 := take_c b L hL p2 k2.1 6 kThen
 have k3 := (Yo (kind := 6) (s := kThen) (by decide) k2).ok k2
 obtain ⟨⟨u3, p3⟩, e3⟩ : ∃ r, takeP L p2 6 kThen = r := ⟨_, rfl⟩
 rw [e3] at H2 k3 hr
 simp only [] at H2 k3 hr
 have H3 := HE _ k3
 have k4 := (HA _ k3).ok k3
 obtain ⟨⟨⟨yk, ys, yn, ⟨ytk, yts, ytn, ytl⟩, yks, yal, ybs, yp⟩, p4⟩, e4⟩ : ∃ r, E p3 = r := ⟨_, rfl⟩
 rw [e4] at H3 k4 hr
 simp only [] at k4 hr
 have H4 := take_c b L hL p4 k4.1 6 kElse
 have k5 := (Yo (kind := 6) (s := kElse) (by decide) k4).ok k4
 obtain ⟨⟨u5, p5⟩, e5⟩ : ∃ r, takeP L p4 6 kElse = r := ⟨_, rfl⟩
 rw [e5] at H4 k5 hr
 simp only [] at H4 k5 hr
 have H5 := HE _ k5
 obtain ⟨⟨⟨zk, zs, zn, ⟨ztk, zts, ztn, ztl⟩, zks, zal, zbs, zp⟩, p6⟩, e6⟩ : ∃ r, E p5 = r := ⟨_, rfl⟩
 rw [e6] at H5 hr
 simp only [Ex.cells, Ty.cells, List.cons_append, List.nil_append] at H1 H3 H5 hr
 refine Zu Tryz.func105 V (by kernel_rfl) V (Ud V) ?_
 refine Yf (Zf (Zc (Za 2 V V V (Zy (cs' := [_, _, _, _, _, _, _, _, _, _, _]) V Wc V V ?_)))); intro b2
 refine Vq (Zb (Zf (Zc (Za 9 V V V (Zd V V (Za 10 V V V (Ws (xs := [.tmp 9]) [1] V V V (HN) by1 ?_)))))))
 refine Za 3 V V V (Zy (cs' := [_, _, _, _]) V Wj V V ?_); intro b3
 refine Zq V V (Zm (cs' := [_, _, _, _]) (i := 0) V Xk V V V V V (Ud V) V (Vq (Zb (Zf (Zf (Zc (Za 11 V V V (Zd V V (Za 12 V V V (Yi (xs := [.tmp 11, .const (.string ⟨#[92]⟩)]) (i := 2) V V V (may_no hL h1) by1 ?_))))))))))
 refine Vq (Zb (Zn V (Zt (Zb (Zf (Zf (Zc (Za 17 V V V (Zd V V (Za 18 V V V (Yi (xs := [.tmp 17, .const (.string ⟨#[108, 101, 116]⟩)]) (i := 2) V V V (may_no hL h2) by1 ?_)))))))))))
 refine Vq (Zb (Zn V (Zt (Zb (Zf (Zf (Zc (Za 51 V V V (Zd V V (Za 52 V V V (Yi (xs := [.tmp 51, .const (.string ⟨#[105, 102]⟩)]) (i := 2) V V V (may_yes hL h3) by1 ?_)))))))))))
 refine Vq (Zb (Zr V (Zf (Zc (Za 53 V V V (Zd V V (Za 54 V V V (Yi (xs := [.tmp 53]) (i := 2) V V V (H1) by1 ?_))))))))
 refine Za 5 V V V (Zy (cs' := [_, _, _, _, _, _, _, _, _, _, _]) V Wc V V ?_); intro b5
 refine Zq V V (Zm (cs' := [_, _, _, _, _, _, _, _, _, _, _]) (i := 0) V Wn V V V V V (Ud V) V (Vq (Zb (Zf (Zc (Za 55 V V V (Zd V V (Za 56 V V V (Yi (xs := [.tmp 55, .const (.int .i64 6), .const (.string ⟨#[116, 104, 101, 110]⟩)]) (i := 3) V V V (H2) by1 ?_)))))))))
 refine Vq (Zb (Zf (Zc (Za 57 V V V (Zd V V (Za 58 V V V (Yi (xs := [.tmp 57]) (i := 3) V V V (H3) by1 ?_)))))))
 refine Za 6 V V V (Zy (cs' := [_, _, _, _, _, _, _, _, _, _, _]) V Wc V V ?_); intro b6
 refine Zq V V (Zm (cs' := [_, _, _, _, _, _, _, _, _, _, _]) (i := 0) V Wn V V V V V (Ud V) V (Vq (Zb (Zf (Zc (Za 59 V V V (Zd V V (Za 60 V V V (Yi (xs := [.tmp 59, .const (.int .i64 6), .const (.string ⟨#[101, 108, 115, 101]⟩)]) (i := 4) V V V (H4) by1 ?_)))))))))
 refine Vq (Zb (Zf (Zc (Za 61 V V V (Zd V V (Za 62 V V V (Yi (xs := [.tmp 61]) (i := 4) V V V (H5) by1 ?_)))))))
 refine Za 7 V V V (Zy (cs' := [_, _, _, _, _, _, _, _, _, _, _]) V Wc V V ?_); intro b7
 refine Zq V V (Zm (cs' := [_, _, _, _, _, _, _, _, _, _, _]) (i := 0) V Wn V V V V V (Ud V) V (Vq (Zb (Zf (Zc (Za 63 V V V (Zx (cs' := [_, _, _, _, _, _, _, _, _, _, _]) (i := 2) V Wd V V V V (Za 64 V V V (Zx (cs' := [_, _, _, _, _, _, _, _, _, _, _]) (i := 1) V Wd V V V V (Za 65 V V V (Zx (cs' := [_, _, _, _, _, _, _, _, _, _, _]) (i := 0) V Wd V V V V (Za 66 V V V (Yb (xs := [.tmp 63, .tmp 64, .tmp 65]) el_107 V V V V V V (Ud V) (Za 67 V V V (Zg V Ww V (Za 68 V V V (Zl (i := 3) V Xf V V V (Za 69 V V V (Yj (ns := [0, 4, 7]) (xs := [.const (.int .i64 9), .tmp 66, .tmp 68]) V Wc V tfl_110 V V V V (Zq V V (Zm (cs' := [_, _, _, _, _, _, _, _, _, _, _]) (i := 4) V Wn V V V V V (Ud V) V (Vq (Zb (Ya ?_))))))))))))))))))))))))
 subst hr; exact Ym (i := 4) rfl rfl rfl Wd rfl by0 (Vu _ (Vu _ (Vu _ (Vu _ (Vu _ (Vw rfl)))))) ⟨rfl, rfl⟩
theorem appsL_go {L : List Tok} {E : PS → Ex × PS} {a : Int} {f : Nat} {p : PS} {x : Ex} (h : startsP L 2 p) : appsL L E a (f + 1) p x = appsL L E a f (atomG L E p).2 (opE 5 [x, (atomG L E p).1] a) := by rw [appsL, if_pos h]
theorem appsL_end {L : List Tok} {E : PS → Ex × PS} {a : Int} {f : Nat} {p : PS} {x : Ex} (h : ¬ startsP L 2 p) : appsL L E a f p x = (x, p) := by
 cases f with
 | zero => rfl
 | succ f => rw [appsL, if_neg h]
theorem operand_app (b : Nat) (L : List Tok) (hL : L.length ≤ 100000) (n : Nat) (E : PS → Ex × PS) (HE : ExC b L n E) (HA : ∀ q, POk L n q → Adv L q (E q).2) (p : PS) (k : POk L n p) (h1 : ¬ isP L p kBack = true) (h2 : ¬ isP L p kLet = true) (h3 : ¬ isP L p kIf = true) (r : Ex × PS) (hr : appsL L E (nxt L p).a (L.length + 1) (atomG L E p).2 (atomG L E p).1 = r) : MCall Tryz.prog 105 [.ptr b 0] (.loc b (psC L p)) (.agg r.1.cells) (.loc b (psC L r.2)) := by
 have HN := next_c b L p
 obtain ⟨⟨tk, tt, tn, ta⟩, ht⟩ : ∃ t, nxt L p = t := ⟨_, rfl⟩
 rw [ht] at HN hr
 simp only [Tok.av] at HN hr
 have H1 := atom_c b L hL n E HE HA p k
 have k2 := (atom_adv HA k).ok k
 obtain ⟨⟨⟨zk, zs, zn, ⟨ztk, zts, ztn, ztl⟩, zks, zal, zbs, zp⟩, p2⟩, e2⟩ : ∃ r, atomG L E p = r := ⟨_, rfl⟩
 rw [e2] at H1 k2 hr
 simp only [Ex.cells, Ty.cells, List.cons_append, List.nil_append] at H1 k2 hr
 refine Zu Tryz.func105 V (by kernel_rfl) V (Ud V) ?_
 refine Yf (Zf (Zc (Za 2 V V V (Zy (cs' := [_, _, _, _, _, _, _, _, _, _, _]) V Wc V V ?_)))); intro b2
 refine Vq (Zb (Zf (Zc (Za 9 V V V (Zd V V (Za 10 V V V (Ws (xs := [.tmp 9]) [1] V V V (HN) by1 ?_)))))))
 refine Za 3 V V V (Zy (cs' := [_, _, _, _]) V Wj V V ?_); intro b3
 refine Zq V V (Zm (cs' := [_, _, _, _]) (i := 0) V Xk V V V V V (Ud V) V (Vq (Zb (Zf (Zf (Zc (Za 11 V V V (Zd V V (Za 12 V V V (Yi (xs := [.tmp 11, .const (.string ⟨#[92]⟩)]) (i := 2) V V V (may_no hL h1) by1 ?_))))))))))
 refine Vq (Zb (Zn V (Zt (Zb (Zf (Zf (Zc (Za 17 V V V (Zd V V (Za 18 V V V (Yi (xs := [.tmp 17, .const (.string ⟨#[108, 101, 116]⟩)]) (i := 2) V V V (may_no hL h2) by1 ?_)))))))))))
 refine Vq (Zb (Zn V (Zt (Zb (Zf (Zf (Zc (Za 51 V V V (Zd V V (Za 52 V V V (Yi (xs := [.tmp 51, .const (.string ⟨#[105, 102]⟩)]) (i := 2) V V V (may_no hL h3) by1 ?_)))))))))))
 refine Vq (Zb (Zn V (Zt (Zb (Zf (Zc (Za 70 V V V (Zd V V (Za 71 V V V (Yi (xs := [.tmp 70]) (i := 2) V V V (H1) by1 ?_))))))))))
 refine Za 8 V V V (Zy (cs' := [_, _, _, _, _, _, _, _, _, _, _]) V Wc V V ?_); intro b8
 refine Zq V V (Zm (cs' := [_, _, _, _, _, _, _, _, _, _, _]) (i := 0) V Wn V V V V V (Ud V) V (Vq (Zb (Zf (Zw ?_)))))
 apply Xp [1, 4, 5, 6, 7, 9, 10, 11, 12, 13, 14, 15, 16, 17, 18, 19, 20, 21, 22, 23, 24, 25, 26, 27, 28, 29, 30, 31, 32, 33, 34, 35, 36, 37, 38, 39, 40, 41, 42, 43, 44, 45, 46, 47, 48, 49, 50, 51, 52, 53, 54, 55, 56, 57, 58, 59, 60, 61, 62, 63, 64, 65, 66, 67, 68, 69, 70, 71, 72, 73, 74, 75, 76, 77, 78, 79, 80] (σ := PS × Nat × Ex) (fun zz => match zz with | (q, f, Ex.mk xk xs xn (Ty.mk xtk xts xtn xtl) xks xal xbs xp) => []) (fun zz => match zz with | (q, f, Ex.mk xk xs xn (Ty.mk xtk xts xtn xtl) xks xal xbs xp) => [.loc b8 [.val (.int .i64 xk), .val (.string xs), .val (.int .i64 xn), .val (.int .i64 xtk), .val (.string xts), .val (.int .i64 xtn), .seq 4 (Ty.cellss xtl), .seq 11 (Ex.cellss xks), .seq 16 (Al.cellss xal), .seq 13 (Bi.cellss xbs), .val (.int .i64 xp)], .loc b3 (Tok.mk tk tt tn ta).av, .loc b2 zEx, .loc b (psC L q)]) (fun zz => match zz with | (q, f, Ex.mk xk xs xn (Ty.mk xtk xts xtn xtl) xks xal xbs xp) => POk L n q ∧ L.length - q.at_ < f ∧ appsL L E ta f q (Ex.mk xk xs xn (Ty.mk xtk xts xtn xtl) xks xal xbs xp) = r) (fun zz => match zz with | (q, f, Ex.mk xk xs xn (Ty.mk xtk xts xtn xtl) xks xal xbs xp) => f) ((p2, L.length + 1, Ex.mk zk zs zn (Ty.mk ztk zts ztn ztl) zks zal zbs zp))
 ·repeat' (first | exact Ug | apply Ue rfl | apply Uf rfl)
 ·exact ⟨k2, by omega, hr⟩
 ·exact by4
 ·exact (Vw V)
 rintro ⟨q, f, ⟨xk, xs, xn, ⟨xtk, xts, xtn, xtl⟩, xks, xal, xbs, xp⟩⟩ hI
 try dsimp only [List.cons_append, List.nil_append] at hI ⊢
 obtain ⟨i1, i2, hu⟩ := hI
 have hq1 := i1.1
 refine Zf (Zf (Zc (Za 72 V V V (Zd V V (Za 73 V V V (op_callkb (xs := [.tmp 72, .const (.int .i64 2)]) [3] V V V (starts_c b L q 2) by1 ?_)))))); intro c73 h73
 refine Vq (Zb ?_)
 rcases Zh h73 with ⟨rfl, g73⟩ | ⟨rfl, g73⟩
 ·refine Zn V (Yy (Xa (Xs (Yz (Zb (Zf (Zc (Za 81 V V V (Zx (cs' := [_, _, _, _, _, _, _, _, _, _, _]) (i := 0) V Wd V V V V (Zq V V (Zm (cs' := [_, _, _, _, _, _, _, _, _, _, _]) (i := 2) V Wn V V V V V (Ud V) V (Vq (Zb (Ya ?_))))))))))))))
  rw [appsL_end g73] at hu; subst hu; exact Ym (i := 2) rfl rfl rfl Wd rfl (Vx _) (Vu _ (Vu _ (Vu _ (Vw rfl)))) ⟨rfl, rfl⟩
 ·refine Zr V (Zt (Zb (Zw ?_)))
  obtain ⟨f, rfl⟩ : ∃ f', f = f' + 1 := ⟨f - 1, by omega⟩
  rw [appsL_go g73] at hu
  have b1 := atom_lt HA i1 g73
  have l2 := (atom_adv HA i1).ok i1
  have HA2 := atom_c b L hL n E HE HA q i1
  obtain ⟨⟨⟨wk, ws, wn, ⟨wtk, wts, wtn, wtl⟩, wks, wal, wbs, wp⟩, q2⟩, f2⟩ : ∃ r, atomG L E q = r := ⟨_, rfl⟩
  rw [f2] at HA2 hu l2 b1
  simp only [Ex.cells, Ty.cells, List.cons_append, List.nil_append] at HA2 hu l2 b1
  have l3 := l2.1
  refine Xu [0, 1, 4, 5, 2, 3, 6, 7] [2, 7] [[], [], [1], [0, 1, 2], [], [4], [0, 1, 2, 3, 4, 5], [0, 1, 2, 3, 4, 5, 6]] Wk V (Zz 74 (some 0) (i := 0) V V V V V (Zx (cs' := [_, _, _, _, _, _, _, _, _, _, _]) (i := 0) V Wd V V V V ⟨V, V⟩) ?_)
  refine Zz 75 (none) (i := 1) V V V V V (Zd V V ⟨V, V⟩) ?_
  refine Zz 78 (none) (i := 4) V V V V V (Zg V Ww V ⟨V, V⟩) ?_
  refine Zz 79 (some 1) (i := 5) V V V V V (Zl (i := 0) V Xf V V V ⟨V, V⟩) ?_
  refine Xm 3 (i := 2) V V V V V (Yi (xs := [.tmp 75]) (i := 0) V V V (HA2) by1 ⟨_, V, ?_⟩)
  refine Zz 77 (none) (i := 3) V V V V V (Yb (xs := [.tmp 74, .tmp 76]) el_107 V V V V V V (Ud V) ⟨V, V⟩) ?_
  refine Zz 80 (none) (i := 6) V V V V V (Yj (ns := [0, 4, 7]) (xs := [.const (.int .i64 5), .tmp 77, .tmp 79]) V Wc V tfl_110 V V V V ⟨V, V⟩) ?_
  refine Xm 0 (i := 7) V V V V V (Zm (cs' := [_, _, _, _, _, _, _, _, _, _, _]) (i := 0) V Wn V V V V V (Ud V) V ⟨_, V, ?_⟩)
  show AGo _ _ _ _ _ _ _
  refine Yn (Yv ?_)
  refine ⟨(q2, f, Ex.mk 5 kE 0 (Ty.mk 0 kE 0 []) [Ex.mk xk xs xn (Ty.mk xtk xts xtn xtl) xks xal xbs xp, Ex.mk wk ws wn (Ty.mk wtk wts wtn wtl) wks wal wbs wp] [] [] ta), ⟨l2, (by show L.length - q2.at_ < f; omega), hu⟩, Nat.lt_succ_self f, by4, (Vv _ by0 (Vt _ (Vt _ (Vw V))))⟩
theorem operand_c (b : Nat) (L : List Tok) (hL : L.length ≤ 100000) (n : Nat) (E : PS → Ex × PS) (HE : ExC b L n E) (HA : ∀ q, POk L n q → Adv L q (E q).2) (p : PS) (k : POk L n p) : MCall Tryz.prog 105 [.ptr b 0] (.loc b (psC L p)) (.agg (operandG L E p).1.cells) (.loc b (psC L (operandG L E p).2)) := by
 unfold operandG
 by_cases h1 : isP L p kBack = true
 ·rw [if_pos h1]; exact operand_lam b L hL n E HE p k h1
 by_cases h2 : isP L p kLet = true
 ·rw [if_neg h1, if_pos h2]
  by_cases h3 : isP L (stepP p) kRec = true
  ·rw [if_pos h3]; exact operand_let b L hL n E HE HA p k h1 h2 true h3 _ rfl
  ·rw [if_neg h3]; exact operand_let b L hL n E HE HA p k h1 h2 false (by simpa using h3) _ rfl
 by_cases h3 : isP L p kIf = true
 ·rw [if_neg h1, if_neg h2, if_pos h3]; exact operand_if b L hL n E HE HA p k h1 h2 h3
 ·rw [if_neg h1, if_neg h2, if_neg h3]; exact operand_app b L hL n E HE HA p k h1 h2 h3 _ rfl
theorem Exp_err (b : Nat) (L : List Tok) (p : PS) (he : p.e ≠ 0) : MCall Tryz.prog 86 [.ptr b 0] (.loc b (psC L p)) (.agg ex0.cells) (.loc b (psC L p)) := by
 refine Zu Tryz.func86 V (by kernel_rfl) V (Ud V) ?_
 refine Yf (Zf (Zc (Za 2 V V V (Zy (cs' := [_, _, _, _, _, _, _, _, _, _, _]) V Wc V V ?_)))); intro b2
 refine Vq (Zb (Zf (Zf (Zc (Za 8 V V V (Zd V V (Za 9 V V V (Yl V V (Za 10 V V V (Zg V Vn V (Za 11 V V V (Zl (i := 1) V Xf V V V (Za 12 V V V (Xw V V V ?_)))))))))))))); intro c12 h12
 refine Vq (Zb ?_)
 rcases Zh h12 with ⟨rfl, g12⟩ | ⟨rfl, g12⟩
 ·exact absurd he g12
 ·exact Zr V (Zf (Zc (Za 13 V V V (Yj (ns := []) (xs := []) V Wc V tfl_110 V V V V (Zq V V (Zm (cs' := [_, _, _, _, _, _, _, _, _, _, _]) (i := 0) V Wn V V V V V (Ud V) V (Vq (Zb (Ya (Ym (i := 0) V V V Wd V by0 (Vu _ (Vr _)) ⟨V, V⟩))))))))))
theorem clash_in (lv : Nat → Nat) : ∀ f k, clashL lv f k = -1 ∨ ((k : Int) ≤ clashL lv f k ∧ clashL lv f k < k + f)
 | 0, k => .inl rfl
 | f + 1, k => by
  unfold clashL
  split
  ·right; omega
  ·rcases clash_in lv f (k + 1) with h | h
   ·exact .inl h
   ·right; omega
theorem clashP_lt {ops : List Tok} (h : 0 ≤ clashP ops) : (clashP ops).toNat < ops.length := by
 rcases clash_in (lvT ops) ops.length 0 with q | q <;> unfold clashP at * <;> omega
theorem opsL_go {L : List Tok} {E : PS → Ex × PS} {f : Nat} {p : PS} {l : List Ex} {o : List Tok} (h : (nxt L p).k = 5) : opsL L E (f + 1) p l o = opsL L E f (operandG L E (takeP L p 5 kE).2).2 (l ++ [(operandG L E (takeP L p 5 kE).2).1]) (o ++ [(takeP L p 5 kE).1]) := by rw [opsL, if_pos h]
theorem opsL_end {L : List Tok} {E : PS → Ex × PS} {f : Nat} {p : PS} {l : List Ex} {o : List Tok} (h : ¬ (nxt L p).k = 5) : opsL L E f p l o = ((l, o), p) := by
 cases f with
 | zero => rfl
 | succ f => rw [opsL, if_neg h]
theorem Exp_ok (b : Nat) (L : List Tok) (hL : L.length ≤ 100000) (n : Nat) (E : PS → Ex × PS) (HE : ExC b L n E) (HA : ∀ q, POk L n q → Adv L q (E q).2) (p : PS) (k : POk L (n + 1) p) (he : p.e = 0) (r : Ex × PS) (hr : joinE (opsL L E (L.length + 1) (operandG L E (deeperP L p)).2 [(operandG L E (deeperP L p)).1] []) = r) : MCall Tryz.prog 86 [.ptr b 0] (.loc b (psC L p)) (.agg r.1.cells) (.loc b (psC L r.2)) := by
 have kq := deeper_ok k he
 have H1 := operand_c b L hL n E HE HA _ kq
 have k2 := (operand_adv HA kq).ok kq
 obtain ⟨⟨⟨zk, zs, zn, ⟨ztk, zts, ztn, ztl⟩, zks, zal, zbs, zp⟩, p2⟩, e2⟩ : ∃ r, operandG L E (deeperP L p) = r := ⟨_, rfl⟩
 rw [e2] at H1 k2 hr
 simp only [] at k2 hr
 obtain ⟨⟨⟨yl, yo⟩, p4⟩, e4⟩ : ∃ r, opsL L E (L.length + 1) p2 [Ex.mk zk zs zn (Ty.mk ztk zts ztn ztl) zks zal zbs zp] [] = r := ⟨_, rfl⟩
 rw [e4] at hr
 unfold joinE at hr
 simp only [Ex.cells, Ty.cells, List.cons_append, List.nil_append] at H1 hr
 refine Zu Tryz.func86 V (by kernel_rfl) V (Ud V) ?_
 refine Yf (Zf (Zc (Za 2 V V V (Zy (cs' := [_, _, _, _, _, _, _, _, _, _, _]) V Wc V V ?_)))); intro b2
 refine Vq (Zb (Zf (Zf (Zc (Za 8 V V V (Zd V V (Za 9 V V V (Yl V V (Za 10 V V V (Zg V Vn V (Za 11 V V V (Zl (i := 1) V Xf V V V (Za 12 V V V (Xw V V V ?_)))))))))))))); intro c12 h12
 refine Vq (Zb ?_)
 rcases Zh h12 with ⟨rfl, g12⟩ | ⟨rfl, g12⟩
 ·refine Zn V (Zt (Zb (Zf (Zc (Za 14 V V V (Zd V V ?_))))))
  refine Za 15 V V V (Yi (xs := [.tmp 14]) (i := 1) V V V (deeper_c b L p k.2.1 (by have := k.2.2.1; omega)) by1 ?_)
  refine Vq (Zb (Zf (Zc (Za 16 V V V (Zd V V (Za 17 V V V (Yi (xs := [.tmp 16]) (i := 1) V V V (H1) by1 ?_)))))))
  refine Za 18 V V V (op_buildSlice_own (xs := [.tmp 17]) el_107 V V V V V V (Ud V) ?_); intro u18
  refine Za 3 V V V (Ze V V (Vq (Zb (Zf (Zc (Za 4 V V V (Ze V V (Vq (Zb (Zf (Zc (Za 5 V V V (Ze V V (Vq (Zb (Zf (Zw (Xx 97 4 (Xx 9 1 ?_)))))))))))))))))))
  apply Xp [1, 3, 4, 5, 6, 8, 9, 10, 11, 12, 13, 14, 15, 16, 17, 18, 19, 20, 21, 22, 23, 24, 25, 26, 27, 28, 29, 30, 31, 32, 33, 34, 35, 36, 37, 38, 55] (σ := PS × Nat × List Ex × List Tok × Value × Value × Value) (fun zz => match zz with | (q, f, l, ops, u, v, w) => [(3, .own u 11 (Ex.cellss l)), (4, .own v 4 (ops.map Tok.av)), (5, .own w 1 (strs (ops.map Tok.t)))]) (fun zz => match zz with | (q, f, l, ops, u, v, w) => [.own 110 11 u, .loc b2 zEx, .loc b (psC L q), .own 97 4 v, .own 9 1 w]) (fun zz => match zz with | (q, f, l, ops, u, v, w) => POk L n q ∧ L.length - q.at_ < f ∧ l.length = ops.length + 1 ∧ ops.length ≤ q.at_ ∧ opsL L E f q l ops = ((yl, yo), p4)) (fun zz => match zz with | (q, f, l, ops, u, v, w) => f) ((p2, L.length + 1, [Ex.mk zk zs zn (Ty.mk ztk zts ztn ztl) zks zal zbs zp], [], u18, .slice none 0 0, .slice none 0 0))
  ·repeat' (first | exact Ug | apply Ue rfl | apply Uf rfl)
  ·exact ⟨k2, by omega, V, Nat.zero_le _, e4⟩
  ·exact Ua V (Vx _) (Ua V (Le.nilOwn 4) (Ua V (Le.nilOwn 1) (SLe.nil _)))
  ·exact (Vw V)
  rintro ⟨q, f, l, ops, u, v, w⟩ hI
  try dsimp only [List.cons_append, List.nil_append] at hI ⊢
  obtain ⟨i1, i2, i3, i4, hu⟩ := hI
  have hq1 := i1.1
  have hb1 := i1.2.1
  have hb2 := i1.2.2.1
  have hl1 : (Ex.cellss l).length ≤ 200000 := by rw [Ex.cellss_len]; omega
  have hl2 : (ops.map Tok.av).length ≤ 200000 := by rw [List.length_map]; omega
  have hl3 : (strs (ops.map Tok.t)).length ≤ 200000 := by rw [Xy, List.length_map]; omega
  have HN := next_c b L q
  have hkn : (nxt L q).k = 5 → q.at_ < L.length := fun e => (Vp (by omega)).2
  have hgo := fun f => opsL_go (L := L) (E := E) (f := f) (p := q) (l := l) (o := ops)
  have hend := opsL_end (L := L) (E := E) (f := f) (p := q) (l := l) (o := ops)
  have htk := fun h : (nxt L q).k = 5 => take_k (s := kE) h (by decide) (by decide)
  obtain ⟨⟨qk, qt, qn, qa⟩, hqt⟩ : ∃ t, nxt L q = t := ⟨_, rfl⟩
  rw [hqt] at HN hkn hgo hend htk
  simp only [Tok.av] at HN hkn hgo hend htk
  refine Zf (Zf (Zc (Za 19 V V V (Zd V V (Za 20 V V V (Ws (xs := [.tmp 19]) [2] V V V (HN) by1 ?_))))))
  refine Za 21 V V V (Vb (ft := 3) (fo := 0) V (by kernel_rfl) Xf V V ?_)
  refine Za 22 V V V (Yw V V V ?_); intro c22 h22
  refine Vq (Zb ?_)
  rcases Zh h22 with ⟨rfl, g22⟩ | ⟨rfl, g22⟩
  ·refine Zn V (Yy (Xa (Xs (Yz (Zb (Zf (Zf ?_)))))))
   rw [hend g22] at hu
   simp only [Prod.mk.injEq] at hu
   obtain ⟨⟨rfl, rfl⟩, rfl⟩ := hu
   refine Zc (Za 39 V V V (Zd V V (Za 40 V V V (Yl V V (Za 41 V V V (Zg V Vn V (Za 42 V V V (Zl (i := 2) V Xf V V V (Za 43 V V V (Xw V V V ?_)))))))))); intro c43 h43
   refine Vq (Zb ?_)
   rcases Zh h43 with ⟨rfl, g43⟩ | ⟨rfl, g43⟩
   ·refine Zn V (Zt (Zb (Zf (Zc (Za 45 V V V (Zd V V (Za 46 V V V (Yk (xs := [.tmp 45]) V V (Clash_p ops (by omega)) by1 ?_))))))))
    refine Za 7 V V V (Ze V V (Vq (Zb (Zf (Zf (Zc (Za 47 V V V (Zd V V (Za 48 V V V (Wm V V V ?_)))))))))); intro c48 h48
    refine Vq (Zb ?_)
    rcases Zh h48 with ⟨rfl, g48⟩ | ⟨rfl, g48⟩
    ·refine Zn V (Zt (Zb (Zf (Zc (Za 57 V V V (Zd V V (Za 58 V V V (Yl V V (Za 59 V V V (Zg V tf_95_2 V (Za 60 V V V (Zl (i := 2) V Xf V V V (Za 61 V V V (op_sub V V V (Uh _ (by omega)) ?_))))))))))))))
     refine Za 62 V V V (Yl V V (Za 63 V V V (Zg V tf_95_2 V (Zq V V (Zm (i := 2) V Wh V V V V V (Ud V) V (Vq (Zb (Zf ?_))))))))
     have HB := Build_c l ops i3 (by omega) ops.length 0 ops.length (Nat.zero_le _) (Nat.le_refl _) (by omega)
     rw [if_neg g43, if_neg g48] at hr
     obtain ⟨⟨wk, ws, wn, ⟨wtk, wts, wtn, wtl⟩, wks, wal, wbs, wp⟩, f2⟩ : ∃ r, buildF l ops ops.length 0 ops.length = r := ⟨_, rfl⟩
     rw [f2] at HB hr
     simp only [Ex.cells, Ty.cells, List.cons_append, List.nil_append] at HB
     have hlen : (ops.map Tok.av).length = ops.length := List.length_map _
     rw [show ((ops.length : Nat) : Int) = (((ops.map Tok.av).length : Nat) : Int) by rw [hlen]] at HB
     refine Zc (Za 64 V V V (Zd V V (Za 65 V V V (Zd V V (Za 66 V V V (Zd V V ?_))))))
     refine Za 67 V V V (Yx V tu_93 V (.own _ _ _) (fun n67 => ?_))
     refine Za 68 V V V (Yk (xs := [.tmp 64, .tmp 65, .const (.int .i64 0), .tmp 67]) V V (HB) by1 ?_)
     refine Zq V V (Zm (cs' := [_, _, _, _, _, _, _, _, _, _, _]) (i := 1) V Wn V V V V V (Ud V) V (Vq (Zb (Ya ?_))))
     subst hr; exact Ym (i := 1) rfl rfl rfl Wd rfl by0 (Vu _ (Vu _ (Vt _ (Vs _)))) ⟨rfl, rfl⟩
    ·refine Zr V (Zf ?_)
     have hcl := clashP_lt g48
     refine Zc (Za 49 V V V (Zd V V (Za 50 V V V (Zd V V (Za 51 V V V (Zd V V ?_))))))
     refine Za 52 V V V (Yd (i := (clashP ops).toNat) V te_93 V (.own _ _ _) V (by first | rfl | omega) (toks_at hcl) ?_)
     refine Za 53 V V V (Zj V Ww V V (Za 54 V V V (Zp V Xf V V (Za 55 V V V (Yi (xs := [.tmp 49, .const (.int .i64 112), .tmp 54]) (i := 2) V V V (fail_c b L q 112 _) by1 ?_)))))
     refine Vq (Zb (Zf (Zc (Za 56 V V V (Yj (ns := []) (xs := []) V Wc V tfl_110 V V V V (Zq V V (Zm (cs' := [_, _, _, _, _, _, _, _, _, _, _]) (i := 1) V Wn V V V V V (Ud V) V (Vq (Zb (Ya ?_))))))))))
     rw [if_neg g43, if_pos g48] at hr; subst hr; exact Ym (i := 1) rfl rfl rfl Wd rfl by0 (Vu _ (Vu _ (Vt _ (Vs _)))) ⟨rfl, rfl⟩
   ·refine Zr V (Zf (Zc (Za 44 V V V (Yj (ns := []) (xs := []) V Wc V tfl_110 V V V V (Zq V V (Zm (cs' := [_, _, _, _, _, _, _, _, _, _, _]) (i := 1) V Wn V V V V V (Ud V) V (Vq (Zb (Ya ?_)))))))))
    rw [if_pos g43] at hr; subst hr; exact Ym (i := 1) rfl rfl rfl Wd rfl by0 (Vu _ (Vu _ (Vt _ (Vs _)))) ⟨rfl, rfl⟩
  ·refine Zr V (Zt (Zb (Zw (Zf ?_))))
   obtain ⟨f, rfl⟩ : ∃ f', f = f' + 1 := ⟨f - 1, by omega⟩
   have hlt := hkn g22
   rw [hgo f g22, htk g22] at hu
   have HT := take_c b L hL q hq1 5 kE
   rw [htk g22] at HT
   have l1 := (Vf i1 hlt).ok i1
   have HO := operand_c b L hL n E HE HA _ l1
   have l2 := (operand_adv HA l1).ok l1
   have b1 : (stepP q).at_ ≤ _ := (operand_adv HA l1).1
   have b2' : (stepP q).at_ = q.at_ + 1 := rfl
   obtain ⟨⟨⟨wk, ws, wn, ⟨wtk, wts, wtn, wtl⟩, wks, wal, wbs, wp⟩, q2⟩, f2⟩ : ∃ r, operandG L E (stepP q) = r := ⟨_, rfl⟩
   simp only [] at hu
   rw [f2] at HO l2 b1 hu
   simp only [Tok.av, Ex.cells, Ty.cells, List.cons_append, List.nil_append] at HT HO l2 b1 hu
   have l3 := l2.1
   refine Zc (Za 23 V V V (Zd V V (Za 24 V V V (Yi (xs := [.tmp 23, .const (.int .i64 5), .const (.string ⟨#[]⟩)]) (i := 2) V V V (HT) by1 ?_))))
   refine Za 6 V V V (Zy (cs' := [_, _, _, _]) V Wj V V ?_); intro b6
   refine Zq V V (Zm (cs' := [_, _, _, _]) (i := 0) V Xk V V V V V (Ud V) V (Vq (Zb (Zf (Zc (Za 25 V V V (Zd V V (Za 26 V V V (Zx (cs' := [_, _, _, _]) (i := 0) V Ys V V V V (Za 27 V V V (Yb (xs := [.tmp 26]) el_93 V V V V V V (Ud V) (Za 28 V V V (Xg (i := 4) el_93 V V V V (.seq _ _) by6 ?_)))))))))))))
   intro u28
   refine Za 4 V V V (Ze V V (Vq (Zb (Zf (Zc (Za 29 V V V (Zd V V (Za 30 V V V (Zg V Xi V (Za 31 V V V (Zl (i := 0) V Xd V V V (Za 32 V V V (Yb (xs := [.tmp 31]) Vo V V V V V V (Ud V) (Za 33 V V V (Xg (i := 5) Vo V V V V (.seq _ _) by6 ?_)))))))))))))))
   intro u33
   refine Za 5 V V V (Ze V V (Vq (Zb (Zc (Za 34 V V V (Zd V V (Za 35 V V V (Zd V V (Za 36 V V V (Yi (xs := [.tmp 35]) (i := 3) V V V (HO) by1 ?_))))))))))
   refine Za 37 V V V (Yb (xs := [.tmp 36]) el_107 V V V V V V (Ud V) (Za 38 V V V (Xg (i := 1) el_107 V V V V (.seq _ _) by6 ?_)))
   intro u38
   refine Za 3 V V V (Ze V V (Vq (Yn (Yv ?_))))
   refine ⟨(q2, f, l ++ [Ex.mk wk ws wn (Ty.mk wtk wts wtn wtl) wks wal wbs wp], ops ++ [Tok.mk qk qt qn qa], u38, u28, u33), ⟨l2, (by show L.length - q2.at_ < f; omega), (by simp [i3]), (by show (ops ++ [Tok.mk qk qt qn qa]).length ≤ q2.at_; rw [List.length_append]; simp; omega), hu⟩, Nat.lt_succ_self f, Ua V (Uc (by rw [Ex.cellss_app']; rfl)) (Ua V (Uc (by rw [List.map_append]; rfl)) (Ua V (Uc (by rw [List.map_append, strs_app]; rfl)) by4)), Vu _ (Vw V)⟩
 ·exact absurd he g12
theorem Exp_c (b : Nat) (L : List Tok) (hL : L.length ≤ 100000) : ∀ n, ExC b L n (expF L n)
 | 0, p, k => Exp_err b L p (fun e => by have := k.2.2.2 e; omega)
 | n + 1, p, k => by
  by_cases he : p.e = 0
  ·exact Exp_ok b L hL n (expF L n) (Exp_c b L hL n) (expF_adv n) p k he _ (by rw [expF, if_neg (by rw [he]; simp)])
  ·rw [expF, if_pos he]; exact Exp_err b L p he
theorem expP_c (b : Nat) (L : List Tok) (hL : L.length ≤ 100000) : ExC b L 302 (expP L) := Exp_c b L hL 302
theorem bindP_c (b : Nat) (L : List Tok) (hL : L.length ≤ 100000) (p : PS) (k : POk L 302 p) : MCall Tryz.prog 56 [.ptr b 0] (.loc b (psC L p)) (.agg (bindP L p).1.cells) (.loc b (psC L (bindP L p).2)) := bind_c b L hL 302 (expP L) (expP_c b L hL) p k
end Go.Proofs.YtknodnfbaofngaaGreat
