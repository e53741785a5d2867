/- Parts of a proof: Needs of the document; Needs of both, as one function; proofs of preds as plain data; the document's Prove as plain functions; nodes; what is asked; The arguments of the statements of layer 12.; when a proof holds, as a plain law; sameness of preds and proofs; an instance that fits; the way up: climb of the document, up of the program; Prove of the program; Prove of the document; the document's Prove is sound, and with more givens it proves what it proved; all proofs of a pred, as plain lists; A logic of trees: a range over a function within a round of another.; the program's iterators: rows; the program's iterators: proofs; the program's iterators: all depths; A logic of trees: drawn regions order by order; a row that becomes eternal.; A logic of trees: drawn regions order by order, weaker slots; rows from nil.; All of the program; EqualFunc of proofs and preds; Holds of the program, by the kind of the proof; Holds of the program; operations that are guarded, in a drawn region that writes; the document's parser: next, is -/
import Derived.Test.YtknodnfbaofngaaGreatKLNBack5
import Derived.RangeFuncNested
set_option maxRecDepth 100000
set_option maxHeartbeats 4000000
namespace Go.Proofs.YtknodnfbaofngaaGreat
open Go.RowKit
theorem needsR_out {v : En} {inst : Int} {t : Ty} (h : inst < 0 ∨ v.ins.length ≤ inst) : needsR v inst t = [] := by
 unfold needsR
 cases hx : v.ins[inst.toNat]? with
 | none => rfl
 | some x =>
  have := Vf hx
  simp only []
  rw [if_pos (.inl (by omega))]
theorem needsR_in {v : En} {i : Nat} {y : In} (hy : v.ins[i]? = some y) (t : Ty) : needsR v i t = if t.kind ≠ 3 ∨ t.kids.length ≠ y.hd.kids.length then [] else y.cx.map fun p => Pr.mk p.c (p.t.turn (putO (varsR y) t.kids)) := by
 unfold needsR
 rw [show (i : Int).toNat = i by omega, hy]
 simp only []
 by_cases q : t.kind ≠ 3 ∨ t.kids.length ≠ y.hd.kids.length
 ·rw [if_pos q, if_pos (.inr q)]
 rw [if_neg q, if_neg (fun e => e.elim (by omega) q)]
theorem Needs_c (v : En) (hv : EnG v) (inst : Int) (t : Ty) (ht : t.size ≤ 1000000) : PCall Tryz.prog 17 [.agg v.cells, .val (.int .i64 inst), .agg t.cells] (.seq 5 (Pr.cellss (needsR v inst t))) := by
 by_cases h : inst < 0 ∨ v.ins.length ≤ inst
 ·rw [needsR_out h]; exact Needs_out v inst t h
 obtain ⟨i, rfl⟩ : ∃ i : Nat, inst = i := ⟨inst.toNat, by omega⟩
 obtain ⟨y, hy⟩ := Yw (l := v.ins) (i := i) (by omega)
 rw [needsR_in hy]; exact Needs_in v hv i y hy t ht
end Go.Proofs.YtknodnfbaofngaaGreat
namespace Go.Proofs.YtknodnfbaofngaaGreat
inductive Pf where
 | mk (k : Int) (n : Int) (c : ByteArray) (ks : List Pf)
def Pf.k : Pf → Int | .mk k _ _ _ => k
def Pf.n : Pf → Int | .mk _ n _ _ => n
def Pf.c : Pf → ByteArray | .mk _ _ c _ => c
def Pf.ks : Pf → List Pf | .mk _ _ _ ks => ks
mutual
def Pf.size : Pf → Nat
 | .mk _ _ _ ks => 1 + Pf.sizes ks
def Pf.sizes : List Pf → Nat
 | [] => 0
 | t :: ts => t.size + Pf.sizes ts
end
theorem Pf.size_mem {t : Pf} : ∀ {ts : List Pf}, t ∈ ts → t.size ≤ Pf.sizes ts
 | [], h => by simp at h
 | u :: ts, h => by
  rw [Pf.sizes]
  rcases List.mem_cons.1 h with rfl | h
  ·omega
  have := Pf.size_mem h; omega
mutual
def Pf.cells : Pf → List AV
 | .mk k n c ks => [.val (.int .i64 k), .val (.int .i64 n), .val (.string c), .seq 4 (Pf.cellss ks)]
def Pf.cellss : List Pf → List (List AV)
 | [] => []
 | t :: ts => t.cells :: Pf.cellss ts
end
theorem Pf.cellss_map : ∀ ts : List Pf, Pf.cellss ts = ts.map Pf.cells
 | [] => by simp [Pf.cellss]
 | t :: ts => by simp [Pf.cellss, Pf.cellss_map ts]
theorem Pf.cellss_len (ts : List Pf) : (Pf.cellss ts).length = ts.length := by rw [Pf.cellss_map]; simp
theorem Pf.cellss_get {ts : List Pf} {i : Nat} {t : Pf} (h : ts[i]? = some t) : (Pf.cellss ts)[i]? = some t.cells := by rw [Pf.cellss_map]; simp [h]
theorem Pf.cellss_app (a b : List Pf) : Pf.cellss (a ++ b) = Pf.cellss a ++ Pf.cellss b := by simp [Pf.cellss_map]
theorem Pf.cellss_app' (a : List Pf) (x : Pf) : Pf.cellss (a ++ [x]) = Pf.cellss a ++ [x.cells] := by simp [Pf.cellss_map]
theorem Pf.cells_len (x : Pf) : x.cells.length = 4 := by cases x; simp [Pf.cells]
/- equality that the kernel can evaluate -/
mutual
def Ty.eqb : Ty → Ty → Bool
 | .mk k s n ks, .mk k' s' n' ks' => decide (k = k') && sameB s s' && decide (n = n') && Ty.eqbs ks ks'
def Ty.eqbs : List Ty → List Ty → Bool
 | [], [] => true
 | t :: ts, u :: us => t.eqb u && Ty.eqbs ts us
 | _, _ => false
end
mutual
theorem Ty.eqb_iff : ∀ a b : Ty, a.eqb b = true ↔ a = b
 | .mk k s n ks, .mk k' s' n' ks' => by
  rw [Ty.eqb]
  simp only [Bool.and_eq_true, decide_eq_true_eq, Wt, Ty.eqbs_iff ks ks', Ty.mk.injEq, and_assoc]
theorem Ty.eqbs_iff : ∀ a b : List Ty, Ty.eqbs a b = true ↔ a = b
 | [], [] => by simp [Ty.eqbs]
 | [], _ :: _ => by simp [Ty.eqbs]
 | _ :: _, [] => by simp [Ty.eqbs]
 | t :: ts, u :: us => by
  rw [Ty.eqbs]
  simp only [Bool.and_eq_true, Ty.eqb_iff t u, Ty.eqbs_iff ts us, List.cons.injEq]
end
def prB (a b : Pr) : Bool := sameB a.c b.c && a.t.eqb b.t
theorem prB_iff {a b : Pr} : prB a b = true ↔ a = b := by
 obtain ⟨c, t⟩ := a
 obtain ⟨d, u⟩ := b
 unfold prB
 simp only [Bool.and_eq_true, Wt, Ty.eqb_iff, Pr.c, Pr.t, Pr.mk.injEq]
/- the way up -/
def upI (v : En) (to c : ByteArray) : Int := findI (fun s => sameB s to || hasB (aboveR v s) to) (supersOf v c) 0
def climbF (v : En) (to : ByteArray) : Nat → ByteArray → Pf → Pf
 | 0, _, x => x
 | n + 1, c, x => if c = to then x else match (supersOf v c)[(upI v to c).toNat]? with
  | none => x
  | some s => climbF v to n s (.mk 2 (upI v to c) c [x])
theorem up_at {v : En} {to c : ByteArray} (h : to ∈ aboveR v c) : ∃ s, 0 ≤ upI v to c ∧ 0 ≤ classI v c ∧ (supersOf v c)[(upI v to c).toNat]? = some s ∧ Edge v c s ∧ (s = to ∨ to ∈ aboveR v s) := by
 obtain ⟨h1, s, hs, h2⟩ := up_next ((above_iff v c to).1 h)
 obtain ⟨i, hi⟩ := List.mem_iff_getElem?.1 hs
 have h3 := (findI_min (fun s => sameB s to || hasB (aboveR v s) to) (supersOf v c) 0 i s hi (by simp only [Bool.or_eq_true, Wt, hasB_iff]; exact h2)).2
 obtain ⟨y, h4, h5, _⟩ := Vq _ _ _ h3
 simp only [Bool.or_eq_true, Wt, hasB_iff] at h5
 exact ⟨y, h3, h1, h4, ⟨h1, Uk h4⟩, h5⟩
def upF (v : En) (c to : ByteArray) (x : Pf) : Pf := climbF v to (high v c + 1) c x
/- the document's Prove -/
def pf0 : Pf := .mk 0 0 kE []
def givI (gs : List Pr) (p : Pr) : Int := findI (fun g => prB g p) gs 0
def supI (v : En) (gs : List Pr) (p : Pr) : Int := findI (fun (g : Pr) => g.t.eqb p.t && hasB (aboveR v g.c) p.c) gs 0
def supP (v : En) (gs : List Pr) (p : Pr) : Pf × Bool := match gs[(supI v gs p).toNat]? with
 | none => (pf0, false)
 | some g => if supI v gs p < 0 then (pf0, false) else (upF v g.c p.c (.mk 1 (supI v gs p) kE []), true)
def proveF (v : En) (gs : List Pr) : Nat → Pr → Pf × Bool
 | 0, _ => (pf0, false)
 | n + 1, p => if 0 ≤ givI gs p then (.mk 1 (givI gs p) kE [], true)
  else if fitsR v p = true ∧ ((needsR v (instI v p.c p.t.name) p.t).all fun q => (proveF v gs n q).2) = true then (.mk 3 (instI v p.c p.t.name) kE ((needsR v (instI v p.c p.t.name) p.t).map fun q => (proveF v gs n q).1), true)
  else supP v gs p
theorem EnC.needs_size {v : En} (hv : EnC v) {i : Int} {t : Ty} {q : Pr} (h : q ∈ needsR v i t) : q.t.size < t.size := by
 unfold needsR at h
 cases hx : v.ins[i.toNat]? with
 | none => rw [hx] at h; simp at h
 | some x =>
  rw [hx] at h
  simp only [] at h
  split at h
  ·simp at h
  rename_i hc
  obtain ⟨p, hp, rfl⟩ := List.mem_map.1 h
  have hm := Uk hx
  have hvar := hv.var x hm p hp
  obtain ⟨c, s, rfl⟩ := hv.g.cv x hm p hp
  have h1 := (firstAt_nonneg s (varsR x) 0).2 hvar
  have h2 := firstAt_lt s (varsR x) 0
  have h3 : (varsR x).length = t.kids.length := by unfold varsR; rw [List.length_map]; omega
  obtain ⟨j, hj⟩ : ∃ j : Nat, firstAt s (varsR x) 0 = j := ⟨_, (Int.toNat_of_nonneg h1).symm⟩
  obtain ⟨y, hy⟩ := Yw (l := t.kids) (i := j) (by omega)
  show ((Ty.mk 1 s 0 []).turn (putO (varsR x) t.kids)).size < t.size
  rw [Ty.turn_some (by rw [putO_in hj]; exact hy)]
  exact Ty.size_kid (Uk hy)
open Go.RowKit
mutual
def Pf.cnt : Pf → Int → Int
 | .mk _ _ _ ks, most => Pf.cnts ks 1 most
def Pf.cnts : List Pf → Int → Int → Int
 | [], n, _ => n
 | t :: ts, n, most => if n < most then Pf.cnts ts (n + t.cnt (most - n)) most else n
end
mutual
theorem Pf.cnt_bd : ∀ (t : Pf) (m : Int), 1 ≤ m → 1 ≤ t.cnt m ∧ t.cnt m ≤ m
 | .mk k n c ks, m, h => by
  rw [Pf.cnt]
  exact Pf.cnts_bd ks 1 m (by omega) h
theorem Pf.cnts_bd : ∀ (ts : List Pf) (n m : Int), 1 ≤ n → n ≤ m → 1 ≤ Pf.cnts ts n m ∧ Pf.cnts ts n m ≤ m
 | [], n, m, h, h' => by rw [Pf.cnts]; omega
 | t :: ts, n, m, h, h' => by
  rw [Pf.cnts]
  split
  ·have hb := Pf.cnt_bd t (m - n) (by omega)
   exact Pf.cnts_bd ts (n + t.cnt (m - n)) m (by omega) (by omega)
  omega
end
theorem nodes_c (d : Nat) : ∀ (t : Pf) (most : Int), t.size ≤ d → 1 ≤ most → most ≤ 1000000 → PCall Tryz.prog 22 [.agg t.cells, .val (.int .i64 most)] (.val (.int .i64 (t.cnt most))) := by
 induction d with
 | zero => intro t most hd; cases t; simp [Pf.size] at hd
 | succ d ih =>
  rintro ⟨k, n, s, ks⟩ most hd h1 h2
  have hl := Pf.cellss_len ks
  rw [Pf.size] at hd
  refine Zw Tryz.func22 V (by kernel_rfl) V (Uf V) ?_
  refine Yf ?_
  refine c_lena (t := 0) (j := 3) V V (.seq _ _) (fun hmax => ?_)
  refine Zg (Zc (Za 2 V V V (Ys (cs' := [_, _, _, _]) V V V V (Za 4 V V V (Ze V V (Vs (Zb (Zg (Zc (Za 5 V V V (Ze V V (Vs (Zb (Zg (Zg (Zc (Za 6 V V V (Ze V V (Vs (Zb (Zz ?_)))))))))))))))))))))
  apply Xm [0, 3, 5, 6, 7, 8, 9, 10, 11, 12, 13, 14, 15, 16, 17, 18, 19, 20, 21, 22, 23, 24, 25, 26, 27, 28, 29] (σ := Nat × Int) (fun zz => match zz with | (i, m) => [(5, .val (.int .i64 m)), (6, .val (.int .i64 i))]) (fun zz => match zz with | (i, m) => i ≤ ks.length ∧ 1 ≤ m ∧ m ≤ most ∧ Pf.cnts (ks.drop i) m most = Pf.cnt (.mk k n s ks) most) (fun zz => match zz with | (i, m) => ks.length - i) ((0, 1))
  ·repeat' (first | exact Ui | apply Ug rfl | apply Uh rfl)
  ·exact ⟨Nat.zero_le _, by omega, h1, by rw [List.drop_zero, Pf.cnt]⟩
  ·exact by4
  rintro ⟨i, m⟩ hI
  try dsimp only [List.cons_append, List.nil_append] at hI ⊢
  obtain ⟨hi, m1, m2, hc⟩ := hI
  refine Zg (Zg (Xl 16 (i < ks.length ∧ m < most) ?_ _ _ V ?_))
  ·skip
   refine Za 7 V V V (Zd V V (Za 8 V V V (Zj V tf_30_3 V V (Za 9 V V V (Zo V ta_28 V V ?_)))))
   refine Za 10 V V V (Yy V tu_28 V (.seq _ _) (fun n10 => ?_))
   refine Za 11 V V V (Yu V V V ?_); intro c11 h11
   refine Za 12 V V V (Zd V V ?_)
   rcases Zi h11 with ⟨rfl, g11⟩ | ⟨rfl, g11⟩
   ·skip
    refine Zk 13 V V V V V (Zk 14 V V V V V (Zk 15 V V V V V (Za 16 V V V (Zn V V V (Vs (Ud V ?_ by5 by3))))))
    simp_all; omega
   skip
   refine Zl 13 V V V V V (Zd V V (Zl 14 V V V V V (Zd V V (Zl 15 V V V V V (Yu V V V ?_))))); intro c15 h15
   refine Za 16 V V V (Zn V V V (Vs (Ud V ?_ by5 by3)))
   simp_all; done
  intro c16 h16
  refine Zb ?_
  rcases Zi h16 with ⟨rfl, g16⟩ | ⟨rfl, g16⟩
  ·refine Zr V (Xc (Xe (Xv (Xd (Zb (Zg (Zc (Za 30 V V V (Zd V V (Za 4 V V V (Ze V V (Vs (Zb (Ya (Yh V V (Vz _) by3 ⟨?_, V⟩)))))))))))))))
   rw [← hc]
   by_cases e : i < ks.length
   ·obtain ⟨x, hx⟩ := Yw e
    rw [Xp hx, Pf.cnts, if_neg (fun q => g16 ⟨e, q⟩)]
   rw [List.drop_eq_nil_of_le (by omega), Pf.cnts]
  refine Zt V (Zv (Zb (Zg (Zz ?_))))
  obtain ⟨⟨k', n', s', ks'⟩, hx⟩ := Yw g16.1
  have hcx := Pf.cellss_get hx
  have hsz := Pf.size_mem (Uk hx)
  have hb := Pf.cnt_bd (.mk k' n' s' ks') (most - m) (by omega)
  refine Zc (Za 19 V V V (Zd V V (Za 20 V V V (Zj V tf_30_3 V V (Za 21 V V V (Zo V ta_28 V V (Za 22 V V V (Zd V V (Za 23 V V V (Yd V te_28 V (.seq _ _) V V (hcx) (Za 24 V V V (Yc (cs' := [_, _, _, _]) V Wm V V V (Za 25 V V V (Zd V V (Za 26 V V V (Zd V V (Za 27 V V V (op_sub V V V (Uj _ (by omega)) ?_))))))))))))))))))
  refine Za 28 V V V (Ym (xs := [.tmp 24, .tmp 27]) V V (ih (.mk k' n' s' ks') (most - m) (by omega) (by omega) (by omega)) by1 ?_)
  refine Za 29 V V V (Yx V V V (Uj _ (by omega)) ?_)
  refine Za 5 V V V (Ze V V (Vs (Yt (Zb (Zc (Za 17 V V V (Zd V V (Za 18 V V V (Yx V V V (Uj _ (by omega)) ?_)))))))))
  refine Za 6 V V V (Ze V V (Vs (Yz ?_)))
  refine ⟨(i + 1, m + Pf.cnt (.mk k' n' s' ks') (most - m)), ⟨by show i + 1 ≤ ks.length; omega, by show 1 ≤ m + _; omega, by show m + _ ≤ most; omega, ?_⟩, by show ks.length - (i + 1) < ks.length - i; omega, by4, by3⟩
  show Pf.cnts (ks.drop (i + 1)) (m + Pf.cnt (.mk k' n' s' ks') (most - m)) most = _
  rw [← hc, Xp hx, Pf.cnts, if_pos g16.2]
structure Ask where
 gs : List Pr
 p : Pr
 x : Pf
 deep : Int
 most : Int
def Ask.cells (a : Ask) : List AV := .seq 5 (Pr.cellss a.gs) :: (a.p.cells ++ (a.x.cells ++ [.val (.int .i64 a.deep), .val (.int .i64 a.most)]))
def Ask.small (a : Ask) : Prop := (∀ g ∈ a.gs, g.t.small 30 = true) ∧ a.gs.length ≤ 6 ∧ a.p.t.small 30 = true ∧ a.x.cnt 201 ≤ 200
theorem askSmall_c (a : Ask) : BCall Tryz.prog 10 [.agg a.cells] a.small := by
 obtain ⟨gs, ⟨pc, ⟨pk, ps, pn, pl⟩⟩, ⟨xk, xn, xc, xl⟩, deep, most⟩ := a
 have hl := Pr.cellss_len gs
 have H1 := Small_c (.mk pk ps pn pl) 30 (by decide) (by decide)
 have H2 := nodes_c _ (.mk xk xn xc xl) 201 (Nat.le_refl _) (by decide) (by decide)
 have H3 := fun g : Pr => Small_c g.t 30 (by decide) (by decide)
 unfold Ask.small
 simp only [Ask.cells, Pr.cells, Ty.cells, Pf.cells, Pr.t, List.cons_append, List.nil_append] at *
 obtain ⟨nx, hnx⟩ : ∃ z, (Pf.mk xk xn xc xl).cnt 201 = z := ⟨_, rfl⟩
 rw [hnx] at H2 ⊢
 refine Zw Tryz.func10 V (by kernel_rfl) V (Uf V) ?_
 refine Yf ?_
 refine c_lena (t := 0) (j := 0) V V (.seq _ _) (fun hmax => ?_)
 refine Zg (Zc (Za 1 V V V (Ys (cs' := [_, _, _, _, _, _, _, _, _, _, _, _]) V V V V (Za 2 V V V (Ze V V (Vs (Zb (Zg (Zg (Zc (Za 5 V V V (Zj V tf_32_0 V V (Za 6 V V V (Zo V ta_22 V V ?_))))))))))))))
 refine Za 7 V V V (Yy V tu_22 V (.seq _ _) (fun n7 => ?_))
 refine Za 8 V V V (Zd V V (Vs (Zb (Zz ?_))))
 apply Xm [0, 2, 3, 4, 5, 8, 9, 10, 11, 12, 13, 14, 15, 16] (σ := Nat) (fun zz => match zz with | i => [(8, .val (.int .i64 i))]) (fun zz => match zz with | i => i ≤ gs.length ∧ ∀ g ∈ gs.take i, g.t.small 30 = true) (fun zz => match zz with | i => gs.length - i) (0)
 ·repeat' (first | exact Ui | apply Ug rfl | apply Uh rfl)
 ·exact ⟨Nat.zero_le _, by simp⟩
 ·exact by4
 rintro i hI
 try dsimp only [List.cons_append, List.nil_append] at hI ⊢
 obtain ⟨hi, hf⟩ := hI
 refine Zg (Zc (Za 9 V V V (Yu V V V ?_))); intro c9 h9
 refine Vs (Zb (Zg ?_))
 rcases Zi h9 with ⟨rfl, g9⟩ | ⟨rfl, g9⟩
 ·refine Zr V (Xc (Xe (Xv (Xd (Zb (Zg ?_))))))
  rw [List.take_of_length_le (by omega)] at hf
  refine Xl 2 (gs.length ≤ 6 ∧ (Ty.mk pk ps pn pl).small 30 = true ∧ nx ≤ 200) ?_ _ _ V ?_
  ·skip
   refine Za 17 V V V (Zj V tf_32_0 V V (Za 18 V V V (Zo V ta_22 V V ?_)))
   refine Za 19 V V V (Yy V tu_22 V (.seq _ _) (fun n19 => ?_))
   refine Za 20 V V V (op_leq V V V ?_); intro c20 h20
   refine Za 21 V V V (Zd V V ?_)
   rcases Zi h20 with ⟨rfl, g20⟩ | ⟨rfl, g20⟩
   ·skip
    refine Zk 22 V V V V V (Zk 23 V V V V V (Zk 24 V V V V V (Zk 25 V V V V V (Za 26 V V V (Zn V V V (Za 27 V V V (Zd V V (Zk 28 V V V V V (Zk 29 V V V V V (Zk 30 V V V V V (Zk 31 V V V V V (Za 32 V V V (Zn V V V (Za 2 V V V (Ze V V ?_)))))))))))))))
    refine Vs (Ud V ?_ by5 by3)
    clear H1 H2 H3; first | (simp_all; done) | (simp_all; omega) | grind
   skip
   refine Zl 22 V V V V V (Zj V tf_32_1 V V (Zl 23 V V V V V (Zj V Wk V V (Zl 24 V V V V V (Yc (cs' := [_, _, _, _]) V Xz V V V (Zl 25 V V V V V (Yg (xs := [.tmp 24, .const (.int .i64 30)]) V V (H1) by1 ?_))))))); intro c25 h25
   refine Za 26 V V V (Zn V V V (Za 27 V V V (Zd V V ?_)))
   rcases Zi h25 with ⟨rfl, g25⟩ | ⟨rfl, g25⟩
   ·skip
    refine Zk 28 V V V V V (Zk 29 V V V V V (Zk 30 V V V V V (Zk 31 V V V V V (Za 32 V V V (Zn V V V (Za 2 V V V (Ze V V (Vs (Ud V ?_ by5 by3)))))))))
    clear H1 H2 H3; first | (simp_all; done) | (simp_all; omega) | grind
   skip
   refine Zl 28 V V V V V (Zj V tf_32_2 V V (Zl 29 V V V V V (Yc (cs' := [_, _, _, _]) V Wm V V V (Zl 30 V V V V V (Ym (xs := [.tmp 29, .const (.int .i64 201)]) V V (H2) by1 ?_)))))
   refine Zl 31 V V V V V (op_leq V V V ?_); intro c31 h31
   refine Za 32 V V V (Zn V V V (Za 2 V V V (Ze V V (Vs (Ud V ?_ by5 by3)))))
   clear H1 H2 H3; first | (simp_all; done) | (simp_all; omega) | grind
  intro c2 h2
  refine Zb (Ya ?_)
  exact Yh V V (Vz _) by3 ⟨⟨_, h2.trans ⟨fun q => ⟨hf, q⟩, fun q => q.2⟩, V⟩, V⟩
 refine Zt V (Zv (Zb (Zg (Zz (Zg ?_)))))
 obtain ⟨⟨gc, ⟨gtk, gts, gtn, gtl⟩⟩, hxg⟩ := Yw (l := gs) (i := i) by7
 have hcg := Pr.cellss_get hxg
 have hmg := Uk hxg
 have HGg := H3 (Pr.mk gc ⟨gtk, gts, gtn, gtl⟩)
 simp only [Ty.cells] at HGg
 have hsg := Wl hxg
 refine Zc (Za 10 V V V (Yd V te_22 V (.seq _ _) V V (hcg) (Za 11 V V V (Yc (cs' := [_, _, _, _, _]) V ta_27 V V V (Za 4 V V V (Zy (cs' := [_, _, _, _, _]) V tz_27 V V ?_)))))); intro b4
 refine Zs V V (Zq (cs' := [_, _, _, _, _]) (i := 0) V ts_27 V V V V V (Uf V) V (Vs (Zb (Zg (Zc (Za 12 V V V (Zh V Wk V (Za 13 V V V (Zx (cs' := [_, _, _, _]) (i := 0) V Xz V V V V (Za 14 V V V (Yg (xs := [.tmp 13, .const (.int .i64 30)]) V V (HGg) by1 ?_))))))))))); intro c14 h14
 refine Za 15 V V V (Xr V V ?_); intro c15 h15
 try replace h15 := nott h15 h14
 refine Vs (Zb ?_)
 rcases Zi h15 with ⟨rfl, g15⟩ | ⟨rfl, g15⟩
 ·refine Zr V (Zv (Yt (Zb (Zc (Za 16 V V V (Yx V V V (Uj _ (by omega)) ?_))))))
  refine Za 8 V V V (Zd V V (Vs (Yz ?_)))
  exact ⟨i + 1, ⟨by show i + 1 ≤ gs.length; omega, fun g hg => by rw [hsg] at hg; exact (List.mem_append.1 hg).elim (hf g) (fun q => by rw [List.mem_singleton.1 q]; exact Classical.not_not.1 g15)⟩, by show gs.length - (i + 1) < gs.length - i; omega, by4, by3⟩
 refine Zt V (Zg (Zc (Za 2 V V V (Ze V V (Vs (Zb (Ya ?_)))))))
 exact Yh V V (Vz _) by3 ⟨⟨false, by simp only [Bool.false_eq_true, false_iff]; exact fun q => g15 (q.1 _ hmg), V⟩, V⟩
theorem rel_agg' {F : EH} {v : Value} {cs : List AV} (hl : cs.length ≠ 1) (h : Rels F cs v.cells.toList) (h1 : Ones v.cells.toList) : Rel F (.agg cs) v := by
 refine rel_agg ?_ h h1
 have := h.len
 cases v <;> first | exact ⟨_, rfl⟩ | (exfalso; exact hl (by rw [this]; rfl))
theorem cellsOf_pr : Tryz.prog.cellsOf 27 = 5 := by kernel_rfl
theorem cellsOf_pf : Tryz.prog.cellsOf 30 = 4 := by kernel_rfl
theorem shape_pr {fuel : Nat} {cs : List AV} (h : ShapeC Tryz.prog fuel 27 cs) : ∃ t : Pr, cs = t.cells := by
 obtain ⟨n, hn, h⟩ := shape_struct Tryz.underlying27 h
 simp only [ShapeF] at h
 obtain ⟨a1, b1, rfl, h1, a2, b2, rfl, h2, rfl⟩ := h
 obtain ⟨s, _, rfl⟩ := shape_str Ws h1
 obtain ⟨t, rfl⟩ := shape_ty _ _ h2
 exact ⟨.mk s t, by simp [Pr.cells]⟩
theorem shape_prs {fuel : Nat} {cs : List AV} (h : ShapeC Tryz.prog fuel 22 cs) : ∃ ts : List Pr, cs = [.seq 5 (Pr.cellss ts)] := by
 obtain ⟨n', es, _, rfl, h5⟩ := shape_slice tu_22 h
 obtain ⟨ts, rfl⟩ := pick_all (f := Pr.cells) (fun x hx => shape_pr (h5 x hx))
 exact ⟨ts, by rw [cellsOf_pr, ← Pr.cellss_map]⟩
theorem shape_pf (fuel : Nat) : ∀ cs, ShapeC Tryz.prog fuel 30 cs → ∃ t : Pf, cs = t.cells := by
 induction fuel using Nat.strongRecOn with
 | _ fuel ih =>
  intro cs h
  obtain ⟨n, hn, h⟩ := shape_struct Tryz.underlying30 h
  simp only [ShapeF] at h
  obtain ⟨a1, b1, rfl, h1, a2, b2, rfl, h2, a3, b3, rfl, h3, a4, b4, rfl, h4, rfl⟩ := h
  obtain ⟨k, _, rfl⟩ := shape_int tu_3 h1
  obtain ⟨m, _, rfl⟩ := shape_int tu_3 h2
  obtain ⟨s, _, rfl⟩ := shape_str Ws h3
  obtain ⟨n', es, hn', rfl, h5⟩ := shape_slice tu_28 h4
  obtain ⟨ts, rfl⟩ := pick_all (f := Pf.cells) (fun x hx => ih n' (by omega) x (h5 x hx))
  refine ⟨.mk k m s ts, ?_⟩
  rw [cellsOf_pf, ← Pf.cellss_map]
  simp [Pf.cells]
theorem shape_ask {fuel : Nat} {cs : List AV} (h : ShapeC Tryz.prog fuel 32 cs) : ∃ a : Ask, cs = a.cells := by
 obtain ⟨n, hn, h⟩ := shape_struct Tryz.underlying32 h
 simp only [ShapeF] at h
 obtain ⟨a1, b1, rfl, h1, a2, b2, rfl, h2, a3, b3, rfl, h3, a4, b4, rfl, h4, a5, b5, rfl, h5, rfl⟩ := h
 obtain ⟨gs, rfl⟩ := shape_prs h1
 obtain ⟨p, rfl⟩ := shape_pr h2
 obtain ⟨x, rfl⟩ := shape_pf _ _ h3
 obtain ⟨d, _, rfl⟩ := shape_int tu_3 h4
 obtain ⟨m, _, rfl⟩ := shape_int tu_3 h5
 exact ⟨⟨gs, p, x, d, m⟩, by simp [Ask.cells]⟩
theorem Ask.cells_len (a : Ask) : a.cells.length = 12 := by
 obtain ⟨gs, ⟨pc, ⟨pk, ps, pn, pl⟩⟩, ⟨xk, xn, xc, xl⟩, deep, most⟩ := a
 rfl
abbrev S12 : List TypeId := [9, 3, 25, 23, 27, 22, 30, 28, 32]
theorem closed12 : closedT Tryz.prog S12 = true := by kernel_rfl
end Go.Proofs.YtknodnfbaofngaaGreat
namespace Go.Proofs.YtknodnfbaofngaaGreat
def fitsP (y : In) (p : Pr) : Prop := y.c = p.c ∧ p.t.kind = 3 ∧ y.hd.name = p.t.name ∧ y.hd.kids.length = p.t.kids.length
mutual
def holdsP (v : En) (gs : List Pr) : Pf → Pr → Prop
 | .mk k n c ks, p =>
  (k = 1 ∧ c = kE ∧ ks.length = 0 ∧ 0 ≤ n ∧ gs[n.toNat]? = some p) ∨
  (k = 2 ∧ 0 ≤ classI v c ∧ 0 ≤ n ∧ (supersOf v c)[n.toNat]? = some p.c ∧ holdsL v gs ks [.mk c p.t]) ∨
  (k = 3 ∧ c = kE ∧ 0 ≤ n ∧ (∃ y, v.ins[n.toNat]? = some y ∧ fitsP y p) ∧ holdsL v gs ks (needsR v n p.t))
def holdsL (v : En) (gs : List Pr) : List Pf → List Pr → Prop
 | [], [] => True
 | x :: xs, q :: qs => holdsP v gs x q ∧ holdsL v gs xs qs
 | _, _ => False
end
theorem holdsL_len {v : En} {gs : List Pr} : ∀ {xs : List Pf} {qs : List Pr}, holdsL v gs xs qs → xs.length = qs.length
 | [], [], _ => rfl
 | [], _ :: _, h => by simp [holdsL] at h
 | _ :: _, [], h => by simp [holdsL] at h
 | x :: xs, q :: qs, h => by
  rw [holdsL] at h
  simp [holdsL_len h.2]
theorem holdsL_one {v : En} {gs : List Pr} {ks : List Pf} {q : Pr} : holdsL v gs ks [q] ↔ ∃ x, ks = [x] ∧ holdsP v gs x q := by
 constructor
 ·intro h
  have hl := holdsL_len h
  obtain ⟨x, rfl⟩ := List.length_eq_one_iff.1 hl
  rw [holdsL] at h
  exact ⟨x, V, h.1⟩
 rintro ⟨x, rfl, h⟩
 rw [holdsL]
 exact ⟨h, by rw [holdsL]; trivial⟩
theorem holds_1 {v : En} {gs : List Pr} {n : Int} {c : ByteArray} {ks : List Pf} {p : Pr} : holdsP v gs (.mk 1 n c ks) p ↔ (c = kE ∧ ks.length = 0 ∧ 0 ≤ n ∧ gs[n.toNat]? = some p) := by
 rw [holdsP]; simp
theorem holds_2 {v : En} {gs : List Pr} {n : Int} {c : ByteArray} {ks : List Pf} {p : Pr} : holdsP v gs (.mk 2 n c ks) p ↔ (0 ≤ classI v c ∧ 0 ≤ n ∧ (supersOf v c)[n.toNat]? = some p.c ∧ holdsL v gs ks [.mk c p.t]) := by
 rw [holdsP]; simp
theorem holds_3 {v : En} {gs : List Pr} {n : Int} {c : ByteArray} {ks : List Pf} {p : Pr} : holdsP v gs (.mk 3 n c ks) p ↔ (c = kE ∧ 0 ≤ n ∧ (∃ y, v.ins[n.toNat]? = some y ∧ fitsP y p) ∧ holdsL v gs ks (needsR v n p.t)) := by
 rw [holdsP]; simp
theorem holds_0 {v : En} {gs : List Pr} {k n : Int} {c : ByteArray} {ks : List Pf} {p : Pr} (h1 : k ≠ 1) (h2 : k ≠ 2) (h3 : k ≠ 3) : ¬ holdsP v gs (.mk k n c ks) p := by
 rw [holdsP]; simp [h1, h2, h3]
open Go.RowKit
theorem climbF_end (v : En) (to : ByteArray) (n : Nat) (x : Pf) : climbF v to (n + 1) to x = x := by rw [climbF, if_pos rfl]
theorem climbF_go {v : En} {to c s : ByteArray} (n : Nat) (x : Pf) (h : ¬ c = to) (hs : (supersOf v c)[(upI v to c).toNat]? = some s) : climbF v to (n + 1) c x = climbF v to n s (.mk 2 (upI v to c) c [x]) := by
 rw [climbF, if_neg h, hs]
theorem up1_c (v : En) (hv : EnC v) (to : ByteArray) (b9 : Nat) : ∀ (n : Nat) (c : ByteArray) (x : Pf), high v c < n → (c = to ∨ to ∈ aboveR v c) →
    KCall Tryz.prog 67 [.val (.string c), .agg x.cells, .cptr [.val (.string to)], .cptr v.cells, .ptr b9 0] [.loc b9 [.clo (.func 67) [] [.cptr [.val (.string to)], .cptr v.cells, .ptr b9 0]]] (.agg (climbF v to n c x).cells)
 | 0, c, x, h, _ => by omega
 | n + 1, c, x, h, hup => by
  have IH := fun s y a b => up1_c v hv to b9 n s y a b
  have HC := tClass_c v c
  have HA := fun s => (tAbove_c v hv.g.b.sup s).pure
  have HH := fun s => ContainsS_c (aboveR v s) to
  obtain ⟨r, hr⟩ : ∃ r, climbF v to (n + 1) c x = r := ⟨_, rfl⟩
  rw [hr]
  by_cases hne : c = to
  ·subst hne
   rw [climbF_end] at hr
   subst hr
   obtain ⟨xk, xn, xc, xl⟩ := x
   obtain ⟨da, cl, ins⟩ := v
   simp only [En.cells, Pf.cells]
   refine Zw Tryz.func67 V (by kernel_rfl) V (Uf V) ?_
   refine Yf (Zg (Zc (Za 6 V V V (Ys (cs' := [_, _, _, _]) V V V V (Za 7 V V V (Zy (cs' := [_, _, _, _]) V tz_30 V V ?_)))))); intro b7
   refine Vs (Zb (Zg (Zg (Zc (Za 12 V V V (Zd V V (Za 13 V V V (Zo V Xb V V (Za 14 V V V (Xx V V V ?_)))))))))); intro c14 h14
   refine Vs (Zb ?_)
   rcases Zi h14 with ⟨rfl, g14⟩ | ⟨rfl, g14⟩
   ·exact absurd V g14
   exact Zt V (Zg (Zc (Za 15 V V V (Yc (cs' := [_, _, _, _]) V Wm V V V (Zs V V (Zq (cs' := [_, _, _, _]) (i := 0) V ts_30 V V V V V (Uf V) V (Vs (Zb (Ya (Yn (i := 0) V V V Wm V (Vz _) (Vw _ (Vt _)) ⟨V, V⟩))))))))))
  obtain ⟨s, hu0, hc0, hsu, hed, hs⟩ := up_at (hup.resolve_left hne)
  have hlt := hv.high_lt hed
  rw [climbF_go n x hne hsu] at hr
  have IH := IH s (.mk 2 (upI v to c) c [x]) (by omega) hs
  rw [hr] at IH
  obtain ⟨cx, hcx, hcs, _⟩ := Vq (fun (c' : Cl) => sameB c'.s c) v.cl 0 hc0
  have hci : classI v c = findI (fun (c' : Cl) => sameB c'.s c) v.cl 0 := rfl
  rw [← hci] at hcx
  have hsl : supersOf v c = cx.su := by unfold supersOf; rw [show v.cl[(classI v c).toNat]? = some cx from hcx]; rfl
  obtain ⟨ui, hui⟩ : ∃ u, upI v to c = u := ⟨_, rfl⟩
  have hud := hui
  unfold upI at hud
  rw [hui] at hu0 hsu IH
  rw [hsl] at hud hsu
  clear hci hr hui hsl hed hlt h hup
  generalize hpp : (fun s => sameB s to || hasB (aboveR v s) to) = pp at hud
  have hpq : ∀ s, pp s = true ↔ (s = to ∨ to ∈ aboveR v s) := fun s => by subst hpp; simp only [Bool.or_eq_true, Wt, hasB_iff]
  clear hpp
  generalize classI v c = ci at *
  rw [show max ci 0 = ci by omega] at HC
  obtain ⟨xk, xn, xc, xl⟩ := x
  obtain ⟨rk, rn, rc, rl⟩ := r
  generalize hav : aboveR v = av at *
  clear hav hv
  obtain ⟨da, cl, ins⟩ := v
  have hcl := Cl.cellss_len cl
  obtain ⟨ys, yv, ysu, yms, yds, yp⟩ := cx
  have hcy := Cl.cellss_get hcx
  simp only [En.cells, Pf.cells, Pf.cellss, Cl.cells, Cl.su, En.cl] at *
  have hls := Xt ysu
  have hcb : ci < cl.length := by have := Vf hcx; omega
  refine Zw Tryz.func67 V (by kernel_rfl) V (Uf V) ?_
  refine Yf (Zg (Zc (Za 6 V V V (Ys (cs' := [_, _, _, _]) V V V V (Za 7 V V V (Zy (cs' := [_, _, _, _]) V tz_30 V V ?_)))))); intro b7
  refine Vs (Zb (Zg (Zg (Zc (Za 12 V V V (Zd V V (Za 13 V V V (Zo V Xb V V (Za 14 V V V (Xx V V V ?_)))))))))); intro c14 h14
  refine Vs (Zb ?_)
  rcases Zi h14 with ⟨rfl, g14⟩ | ⟨rfl, g14⟩
  ·refine Zr V (Zv (Zb (Zg (Zc (Za 17 V V V (Yc (cs' := [_, _, _]) V Xw V V V (Za 18 V V V (Zd V V (Za 19 V V V (Ym (xs := [.tmp 17, .tmp 18]) V V (HC) by1 ?_))))))))))
   refine Za 16 V V V (Zd V V (Za 20 V V V (Yv V V V (Za 21 V V V (Yv V V V (Za 8 V V V (Ze V V (Za 9 V V V (Ze V V (Vs (Zb (Zg (Zg (Zc (Za 22 V V V (Zj V Wi V V (Za 23 V V V (Zo V Vm V V (Za 24 V V V (Zd V V ?_))))))))))))))))))))
   refine Za 25 V V V (Yd (i := ci.toNat) V te_35 V (.seq _ _) V (by first | rfl | omega) (hcy) ?_)
   refine Za 26 V V V (Zj V tf_77_2 V V (Za 27 V V V (Zo V ta_68 V V ?_)))
   refine Za 28 V V V (Yy V tu_68 V (.seq _ _) (fun n28 => ?_))
   refine Za 29 V V V (Zd V V (Vs (Zb (Zz ?_))))
   refine c_lens (t := 27) V (.seq _ _) (fun hmax => ?_)
   apply Xm [1, 5, 8, 9, 10, 11, 12, 13, 14, 15, 16, 17, 18, 19, 20, 21, 22, 23, 24, 25, 26, 29, 30, 31, 32, 33, 34, 35, 36, 37, 38, 39, 40, 41, 42, 43, 44, 45, 46, 47, 48, 49, 50, 51, 52] (σ := Nat) (fun zz => match zz with | i => [(29, .val (.int .i64 i))]) (fun zz => match zz with | i => i ≤ ysu.length ∧ findI pp (ysu.drop i) i = ui) (fun zz => match zz with | i => ysu.length - i) (0)
   ·repeat' (first | exact Ui | apply Ug rfl | apply Uh rfl)
   ·exact ⟨Nat.zero_le _, hud⟩
   ·exact by4
   rintro i hI
   try dsimp only [List.cons_append, List.nil_append] at hI ⊢
   obtain ⟨hi, hf⟩ := hI
   refine Zg (Zc (Za 30 V V V (Yu V V V ?_))); intro c30 h30
   refine Vs (Zb (Zg ?_))
   rcases Zi h30 with ⟨rfl, g30⟩ | ⟨rfl, g30⟩
   ·refine Zr V (Xc (Xe (Xv (Xd (Zb (Zg ?_))))))
    rw [Ul (by omega), findI] at hf
    exact absurd hu0 (by omega)
   refine Zt V (Zv (Zb (Zg (Zz (Zg ?_)))))
   obtain ⟨z, hxz⟩ := Yw (l := ysu) (i := i) by7
   have hcz := strs_get hxz
   have hmz := Uk hxz
   rw [Xp hxz, findI] at hf
   have HAz := HA z
   have HHz := HH z
   refine Zc (Za 31 V V V (Zd V V (Za 32 V V V (Yd V te_68 V (.seq _ _) V V (hcz) (Za 33 V V V (Zo V Xb V V (Za 10 V V V (Ze V V (Za 11 V V V (Ze V V (Vs (Zb (Zg (Vk 43 (z = to ∨ to ∈ av z) Wo V ?_ _ _ V ?_))))))))))))))
   ·skip
    refine Zm 34 V V (Zd V V ⟨V, V⟩) ?_
    refine Zm 35 V V (Zo V Xb V V ⟨V, V⟩) ?_
    refine Wd 36 V V (fun _ q => Xx V V V q) ?_; intro c36 h36
    refine Zm 37 V V (Zd V V ⟨V, V⟩) ?_
    rcases Zi h36 with ⟨rfl, g36⟩ | ⟨rfl, g36⟩
    ·skip
     refine Zu 38 V V V V (Yc (cs' := [_, _, _]) V Xw V V V ⟨V, V⟩) ?_
     refine Zu 39 V V V V (Zd V V ⟨V, V⟩) ?_
     refine Zu 40 V V V V (Ym (xs := [.tmp 38, .tmp 39]) V V (HAz) by1 ⟨V, V⟩) ?_
     refine Zu 41 V V V V (Zo V Xb V V ⟨V, V⟩) ?_
     refine Xi 42 V V V V (fun _ q => Yg (xs := [.tmp 40, .tmp 41]) V V (HHz) by1 q) ?_; intro c42 h42
     refine Zm 43 V V (Zn V V V ⟨V, V⟩) ?_
     show BoolQ _ _ _ _ _ _
     refine Ud V ?_ by5 by3
     clear HC HA HH HAz HHz IH; first | (simp_all; done) | grind
    skip
    refine Zf 38 V V V V (Zf 39 V V V V (Zf 40 V V V V (Zf 41 V V V V (Zf 42 V V V V (Zm 43 V V (Zn V V V ⟨V, V⟩) ?_)))))
    show BoolQ _ _ _ _ _ _
    refine Ud V ?_ by5 by3
    clear HC HA HH HAz HHz IH; first | (simp_all; done) | grind
   intro c43 h43
   refine Zb ?_
   rcases Zi h43 with ⟨rfl, g43⟩ | ⟨rfl, g43⟩
   ·refine Zr V (Zv (Yt (Zb (Zc (Za 52 V V V (Yx V V V (Uj _ (by omega)) ?_))))))
    refine Za 29 V V V (Zd V V (Vs (Yz ?_)))
    rw [if_neg (fun q => g43 ((hpq z).1 q))] at hf; exact ⟨i + 1, ⟨by show i + 1 ≤ ysu.length; omega, hf⟩, by show ysu.length - (i + 1) < ysu.length - i; omega, by4, by3⟩
   refine Zt V (Zg ?_)
   rw [if_pos ((hpq z).2 g43)] at hf
   subst hf
   rw [show ((i : Int)).toNat = i by omega, hxz] at hsu
   cases hsu
   refine Zc (Za 44 V V V (Zp (i := 1) V ta_124 V V V (Za 45 V V V (Zd V V (Za 46 V V V (Zd V V (Za 47 V V V (Zd V V (Za 48 V V V (Yc (cs' := [_, _, _, _]) V Wm V V V (Za 49 V V V (Ye (xs := [.tmp 48]) el_28 V V V V V V (Uf V) (Za 50 V V V (Yl (ns := [0, 1, 2, 3]) (xs := [.const (.int .i64 2), .tmp 46, .tmp 47, .tmp 49]) V tz_30 V tfl_30 V V V V (Za 51 V V V (op_callvat [1] (xs := [.tmp 45, .tmp 50])  V V V V IH by1 ?_))))))))))))))))
   rintro v51 M51 ⟨rfl, rfl⟩
   exact Zs V V (Zq (cs' := [_, _, _, _]) (i := 1) V ts_30 V V V V V (Uf V) V (Vs (Zb (Ya (Yn (i := 1) V V V Wm V (Vz _) by3 ⟨V, V⟩)))))
  exact absurd g14 hne
theorem up_c (v : En) (hv : EnC v) (c to : ByteArray) (x : Pf) (h : c = to ∨ to ∈ aboveR v c) : PCall Tryz.prog 33 [.agg v.cells, .val (.string c), .val (.string to), .agg x.cells] (.agg (upF v c to x).cells) := by
 have H := fun b9 => up1_c v hv to b9 (high v c + 1) c x (by omega) h
 have he : climbF v to (high v c + 1) c x = upF v c to x := rfl
 rw [he] at H
 generalize upF v c to x = r at *
 obtain ⟨xk, xn, xc, xl⟩ := x
 obtain ⟨rk, rn, rc, rl⟩ := r
 clear he hv h
 obtain ⟨da, cl, ins⟩ := v
 simp only [En.cells, Pf.cells] at H ⊢
 refine Zw Tryz.func33 V (by kernel_rfl) V (Uf V) ?_
 refine Yf (Zg (Zc (Za 4 V V V (Ys (cs' := [_, _, _]) V V V V (Za 6 V V V (Ys (cs' := [_]) V V V V (Za 7 V V V (Ys (cs' := [_, _, _, _]) V V V V (Za 8 V V V (Zy (cs' := [_, _, _, _]) V tz_30 V V ?_)))))))))); intro b8
 refine Vs (Zb (Zg (Zc (Za 9 V V V (Zy (cs' := [_]) V tz_124 V V ?_))))); intro b9
 refine Vs (Zb (Zg (Zc (Za 10 V V V (op_makeFunc (fs := []) (cs := [.tmp 6, .tmp 4, .tmp 9]) V V V (Zs V V (Zq (cs' := [_]) (i := 0) V ts_124 V V V V V (Uf V) V (Vs (Zb (Zg (Zc (Za 11 V V V (Zp (i := 0) V ta_124 V V V (Za 12 V V V (Zd V V (Za 13 V V V (Yc (cs' := [_, _, _, _]) V Wm V V V (Za 14 V V V (op_callvat [0] (xs := [.tmp 12, .tmp 13])  V V V V (H b9) by1 ?_)))))))))))))))))))
 rintro v14 M14 ⟨rfl, rfl⟩
 exact Zs V V (Zq (cs' := [_, _, _, _]) (i := 1) V ts_30 V V V V V (Uf V) V (Vs (Zb (Ya (Yn (i := 1) V V V Wm V (Vz _) (Vu _) ⟨V, V⟩)))))
theorem supP_hit {v : En} {gs : List Pr} {p g : Pr} {i : Nat} (hi : supI v gs p = i) (hg : gs[i]? = some g) : supP v gs p = (upF v g.c p.c (.mk 1 i kE []), true) := by
 unfold supP
 rw [hi, show ((i : Int)).toNat = i by omega, hg]
 simp only []
 rw [if_neg (by omega)]
theorem supP_no {v : En} {gs : List Pr} {p : Pr} (hi : supI v gs p < 0) : supP v gs p = (pf0, false) := by
 unfold supP
 cases gs[(supI v gs p).toNat]? with
 | none => rfl
 | some g => simp only []; rw [if_pos hi]
theorem needsR_len {v : En} (hv : EnB v) (i : Int) (t : Ty) : (needsR v i t).length ≤ 100000 := by
 unfold needsR
 cases hx : v.ins[i.toNat]? with
 | none => simp
 | some x =>
  simp only []
  have := (hv.inss x (Uk hx)).1
  split
  ·simp
  rw [List.length_map]; omega
theorem Prove1_c (x p : Pr) : BCall Tryz.prog 27 [.agg x.cells, .cptr p.cells] (prB x p = true) := by
 have H := same_c x p
 obtain ⟨xc, ⟨xk, xs, xn, xl⟩⟩ := x
 obtain ⟨pc, ⟨pk, ps, pn, pl⟩⟩ := p
 rw [show (prB (Pr.mk xc ⟨xk, xs, xn, xl⟩) (Pr.mk pc ⟨pk, ps, pn, pl⟩) = true) = ((Pr.mk xc ⟨xk, xs, xn, xl⟩) = (Pr.mk pc ⟨pk, ps, pn, pl⟩)) from propext prB_iff]
 simp only [Pr.cells, Ty.cells] at H ⊢
 refine Zw Tryz.func27 V (by kernel_rfl) V (Uf V) ?_
 refine Yf (Zg (Zc (Za 2 V V V (Ys (cs' := [_, _, _, _, _]) V V V V (Za 3 V V V (Ze V V (Vs (Zb (Zg (Zc (Za 4 V V V (Yc (cs' := [_, _, _, _, _]) V ta_27 V V V (Za 5 V V V (Yc (cs' := [_, _, _, _, _]) V ta_27 V V V (Za 6 V V V (Yg (xs := [.tmp 4, .tmp 5]) V V (H) by1 ?_)))))))))))))))); intro c6 h6
 exact Za 3 V V V (Ze V V (Vs (Zb (Ya (Yh V V (Vz _) by3 ⟨⟨_, h6, V⟩, V⟩)))))
theorem Prove_c (v : En) (hv : EnC v) (gs : List Pr) : ∀ (n : Nat) (p : Pr), p.t.size < n → p.t.size ≤ 1000000 → PCall Tryz.prog 11 [.agg v.cells, .seq 5 (Pr.cellss gs), .agg p.cells] (.tup [.agg (proveF v gs n p).1.cells, .val (.bool (proveF v gs n p).2)])
 | 0, p, h, _ => by omega
 | n + 1, p, h, hz => by
  have IH := fun q a b => Prove_c v hv gs n q a b
  have HG : PCall Tryz.prog _ _ _ := IxF_Pr (fun g => prB g p) 27 [] [.cptr p.cells] gs (fun x _ => Prove1_c x p)
  have HF := fits_c v p
  have HN := Needs_c v hv.g (instI v p.c p.t.name) p.t hz
  have HS := fun (g : Pr) => tSameType_c g.t p.t
  have HA := fun (g : Pr) => (tAbove_c v hv.g.b.sup g.c).pure
  have HH := fun (g : Pr) => ContainsS_c (aboveR v g.c) p.c
  have HU0 := fun (g : Pr) (i : Nat) h => up_c v hv g.c p.c (.mk 1 i kE []) (.inr h)
  obtain ⟨r, hr⟩ : ∃ r, proveF v gs (n + 1) p = r := ⟨_, rfl⟩
  rw [hr]
  rw [proveF] at hr
  have hgi : givI gs p = findI (fun g => prB g p) gs 0 := rfl
  rw [← hgi] at HG
  generalize givI gs p = gi at *
  clear hgi
  have hfi : fitsR v p = true → 0 ≤ instI v p.c p.t.name := fun q => by unfold fitsR at q; exact (of_decide_eq_true q).1
  have hnz := fun q (hq : q ∈ needsR v (instI v p.c p.t.name) p.t) => hv.needs_size hq
  have IH : ∀ q ∈ needsR v (instI v p.c p.t.name) p.t, PCall Tryz.prog _ _ _ := fun q hq => IH q (by have := hnz q hq; omega) (by have := hnz q hq; omega)
  clear hnz
  have hlb := needsR_len hv.g.b (instI v p.c p.t.name) p.t
  generalize proveF v gs n = F at *
  generalize needsR v (instI v p.c p.t.name) p.t = l at *
  generalize fitsR v p = c30 at *
  generalize instI v p.c p.t.name = ii at *
  obtain ⟨si, hsi⟩ : ∃ s, supI v gs p = s := ⟨_, rfl⟩
  have hsh0 := fun (i : Nat) g (e : si = i) => supP_hit (v := v) (gs := gs) (p := p) (g := g) (i := i) (hsi.trans e)
  have hsn : si < 0 → _ := fun e => supP_no (v := v) (gs := gs) (p := p) (by omega)
  unfold supI at hsi
  generalize hpp : (fun (g : Pr) => g.t.eqb p.t && hasB (aboveR v g.c) p.c) = pp at hsi
  have hpq : ∀ g, pp g = true ↔ (g.t = p.t ∧ p.c ∈ aboveR v g.c) := fun s => by subst hpp; simp only [Bool.and_eq_true, Ty.eqb_iff, hasB_iff]
  clear hpp
  generalize supP v gs p = sp at *
  have hUF : ∃ U : Pr → Nat → Pf, U = fun (g : Pr) (i : Nat) => upF v g.c p.c (.mk 1 i kE []) := ⟨_, rfl⟩
  obtain ⟨U, hU⟩ := hUF
  have HU : ∀ (g : Pr) (i : Nat), p.c ∈ aboveR v g.c → PCall Tryz.prog 33 [.agg v.cells, .val (.string g.c), .val (.string p.c), .agg (Pf.mk 1 i kE []).cells] (.agg (U g i).cells) := fun g i h => by rw [hU]; exact HU0 g i h
  have hsh : ∀ (i : Nat) g, si = i → gs[i]? = some g → sp = (U g i, true) := fun i g e k => by rw [hU]; exact hsh0 i g e k
  clear hU hv hz h hsh0 HU0
  generalize aboveR v = av at *
  obtain ⟨pc, ⟨pk, ps, pn, pl⟩⟩ := p
  obtain ⟨da, cl, ins⟩ := v
  obtain ⟨⟨rk, rn, rc, rl⟩, rb⟩ := r
  have hgl := Pr.cellss_len gs
  have hll := Pr.cellss_len l
  simp only [En.cells, Pf.cells, Pf.cellss, Pr.cells, Ty.cells, Pr.c, Pr.t] at *
  refine Zw Tryz.func11 V (by kernel_rfl) V (Uf V) ?_
  refine Yf (Zg (Zc (Za 3 V V V (Ys (cs' := [_, _, _]) V V V V (Za 5 V V V (Ys (cs' := [_, _, _, _, _]) V V V V (Za 6 V V V (Zy (cs' := [_, _, _, _]) V tz_30 V V ?_)))))))); intro b6
  refine Za 7 V V V (Ze V V (Vs (Zb (Zg (Zg (Zc (Za 18 V V V (Zd V V (Za 19 V V V (op_makeFunc (fs := []) (cs := [.tmp 5]) V V V (Za 20 V V V (Ym (xs := [.tmp 18, .tmp 19]) V V (HG) by1 ?_))))))))))))
  refine Za 8 V V V (Ze V V (Vs (Zb (Zg (Zc (Za 21 V V V (Zd V V (Za 22 V V V (Wa V V V ?_))))))))); intro c22 h22
  refine Vs (Zb ?_)
  rcases Zi h22 with ⟨rfl, g22⟩ | ⟨rfl, g22⟩
  ·refine Zr V (Zv (Zb (Zg (Zg ?_))))
   rw [if_neg g22] at hr
   refine Zc (Za 26 V V V (Yc (cs' := [_, _, _]) V Xw V V V (Za 27 V V V (Yc (cs' := [_, _, _, _, _]) V ta_27 V V V (Za 28 V V V (Ym (xs := [.tmp 26, .tmp 27]) V V (HF) by1 ?_))))))
   refine Za 25 V V V (Zd V V (Za 29 V V V (Yv V V V (Za 30 V V V (Yv V V V (Za 9 V V V (Ze V V (Za 10 V V V (Ze V V (Vs (Zb (Zg (Zc (Za 31 V V V (Zd V V (Vs (Zb ?_)))))))))))))))))
   rcases c30 with _ | _
   ·refine Zr V (Zv (Zb (Zg (Zg (Zc (Za 64 V V V (Zd V V ?_)))))))
    refine Za 65 V V V (Yy V tu_22 V (.seq _ _) (fun n65 => ?_))
    refine Za 66 V V V (Zd V V (Vs (Zb (Zz ?_))))
    have hr : sp = (Pf.mk rk rn rc rl, rb) := by
     first
      | (rw [List.take_of_length_le (by omega)] at hb; rw [if_neg (fun q => by rw [← hb] at q; exact absurd q.2 (by simp))] at hr; exact hr)
      | (rw [if_neg (fun q => absurd q.1 (by simp))] at hr; exact hr)
    apply Xm [0, 1, 2, 4, 7, 8, 9, 10, 11, 12, 13, 14, 15, 16, 17, 18, 19, 20, 21, 22, 23, 24, 25, 26, 27, 28, 29, 31, 32, 33, 34, 35, 36, 37, 38, 39, 40, 41, 42, 43, 44, 45, 46, 47, 48, 49, 50, 51, 52, 53, 54, 55, 56, 57, 58, 59, 60, 61, 62, 63, 66, 67, 68, 69, 70, 71, 72, 73, 74, 75, 76, 77, 78, 79, 80, 81, 82, 83, 84, 85, 86, 87, 88, 89, 90, 91, 92, 93] (σ := Nat) (fun zz => match zz with | i => [(66, .val (.int .i64 i))]) (fun zz => match zz with | i => i ≤ gs.length ∧ findI pp (gs.drop i) i = si) (fun zz => match zz with | i => gs.length - i) (0)
    ·repeat' (first | exact Ui | apply Ug rfl | apply Uh rfl)
    ·exact ⟨Nat.zero_le _, hsi⟩
    ·exact by4
    rintro i hI
    try dsimp only [List.cons_append, List.nil_append] at hI ⊢
    obtain ⟨hi, hf⟩ := hI
    refine Zg (Zc (Za 67 V V V (Yu V V V ?_))); intro c67 h67
    refine Vs (Zb (Zg ?_))
    rcases Zi h67 with ⟨rfl, g67⟩ | ⟨rfl, g67⟩
    ·refine Zr V (Xc (Xe (Xv (Xd (Zb (Zg (Zc (Za 94 V V V (Yl (ns := []) (xs := []) V tz_30 V tfl_30 V V V V (Zs V V (Zq (cs' := [_, _, _, _]) (i := 0) V ts_30 V V V V V (Uf V) V (Za 7 V V V (Ze V V (Vs (Zb (Ya ?_))))))))))))))))
     rw [Ul (by omega), findI] at hf
     rw [hsn (by omega)] at hr
     cases hr
     first
      | exact Wz (i := 0) rfl rfl rfl rfl Wm rfl by0 (Vu _) ⟨rfl, rfl⟩
      | exact Wz (i := 1) rfl rfl rfl rfl Wm rfl by0 (Vu _) ⟨rfl, rfl⟩
      | exact Wz (i := 2) rfl rfl rfl rfl Wm rfl by0 (Vu _) ⟨rfl, rfl⟩
      | exact Wz (i := 3) rfl rfl rfl rfl Wm rfl by0 (Vu _) ⟨rfl, rfl⟩
    refine Zt V (Zv (Zb (Zg (Zz (Zg ?_)))))
    obtain ⟨⟨gc, ⟨gtk, gts, gtn, gtl⟩⟩, hxg⟩ := Yw (l := gs) (i := i) by7
    have hcg := Pr.cellss_get hxg
    have hmg := Uk hxg
    rw [Xp hxg, findI] at hf
    have HSg := HS (Pr.mk gc ⟨gtk, gts, gtn, gtl⟩)
    have HAg := HA (Pr.mk gc ⟨gtk, gts, gtn, gtl⟩)
    have HHg := HH (Pr.mk gc ⟨gtk, gts, gtn, gtl⟩)
    simp only [Ty.cells] at HSg HAg HHg
    refine Zc (Za 68 V V V (Zd V V (Za 69 V V V (Yd V te_22 V (.seq _ _) V V (hcg) (Za 70 V V V (Yc (cs' := [_, _, _, _, _]) V ta_27 V V V (Za 17 V V V (Zy (cs' := [_, _, _, _, _]) V tz_27 V V ?_)))))))); intro b17
    refine Za 16 V V V (Ze V V (Zs V V (Zq (cs' := [_, _, _, _, _]) (i := 0) V ts_27 V V V V V (Uf V) V (Vs (Zb (Zg (Vk 84 (Ty.mk gtk gts gtn gtl = Ty.mk pk ps pn pl ∧ pc ∈ av gc) Wo V ?_ _ _ V ?_)))))))
    ·skip
     refine Zm 71 V V (Zh V Wk V ⟨V, V⟩) ?_
     refine Zm 72 V V (Zx (cs' := [_, _, _, _]) (i := 0) V Xz V V V V ⟨V, V⟩) ?_
     refine Zm 73 V V (Zj V Wk V V ⟨V, V⟩) ?_
     refine Zm 74 V V (Yc (cs' := [_, _, _, _]) V Xz V V V ⟨V, V⟩) ?_
     refine Wd 75 V V (fun _ q => Yg (xs := [.tmp 72, .tmp 74]) V V (HSg) by1 q) ?_; intro c75 h75
     refine Zm 76 V V (Zd V V ⟨V, V⟩) ?_
     rcases Zi h75 with ⟨rfl, g75⟩ | ⟨rfl, g75⟩
     ·skip
      refine Zf 77 V V V V (Zf 78 V V V V (Zf 79 V V V V (Zf 80 V V V V (Zf 81 V V V V (Zf 82 V V V V (Zf 83 V V V V (Zm 84 V V (Zn V V V ⟨V, V⟩) ?_)))))))
      show BoolQ _ _ _ _ _ _
      refine Ud V ?_ by5 by3
      clear HSg HAg HHg HS HA HH HU HG HF HN IH; first | (simp_all; done) | grind
     skip
     refine Zu 77 V V V V (Yc (cs' := [_, _, _]) V Xw V V V ⟨V, V⟩) ?_
     refine Zu 78 V V V V (Zh V Vb V ⟨V, V⟩) ?_
     refine Zu 79 V V V V (Zp (i := 0) V Xb V V V ⟨V, V⟩) ?_
     refine Zu 80 V V V V (Ym (xs := [.tmp 77, .tmp 79]) V V (HAg) by1 ⟨V, V⟩) ?_
     refine Zu 81 V V V V (Zj V Vb V V ⟨V, V⟩) ?_
     refine Zu 82 V V V V (Zo V Xb V V ⟨V, V⟩) ?_
     refine Xi 83 V V V V (fun _ q => Yg (xs := [.tmp 80, .tmp 82]) V V (HHg) by1 q) ?_; intro c83 h83
     refine Zm 84 V V (Zn V V V ⟨V, V⟩) ?_
     show BoolQ _ _ _ _ _ _
     refine Ud V ?_ by5 by3
     clear HSg HAg HHg HS HA HH HU HG HF HN IH; first | (simp_all; done) | grind
    intro c84 h84
    refine Zb ?_
    rcases Zi h84 with ⟨rfl, g84⟩ | ⟨rfl, g84⟩
    ·refine Zr V (Zv (Yt (Zb (Zc (Za 93 V V V (Yx V V V (Uj _ (by omega)) ?_))))))
     refine Za 66 V V V (Zd V V (Vs (Yz ?_)))
     rw [if_neg (fun q => g84 ((hpq _).1 q))] at hf; exact ⟨i + 1, ⟨by show i + 1 ≤ gs.length; omega, hf⟩, by show gs.length - (i + 1) < gs.length - i; omega, by4, by3⟩
    refine Zt V (Zg ?_)
    rw [if_pos ((hpq _).2 g84)] at hf
    have hsp := hsh i _ hf.symm hxg
    rw [hsp] at hr
    have HUg := HU (Pr.mk gc ⟨gtk, gts, gtn, gtl⟩) i g84.2
    obtain ⟨h1r, h2r⟩ := Prod.mk.inj hr
    rw [h1r] at HUg
    simp only [Pf.cells] at HUg
    refine Zc (Za 85 V V V (Yc (cs' := [_, _, _]) V Xw V V V (Za 86 V V V (Zh V Vb V (Za 87 V V V (Zp (i := 0) V Xb V V V (Za 88 V V V (Zj V Vb V V (Za 89 V V V (Zo V Xb V V (Za 90 V V V (Zd V V (Za 91 V V V (Yl (ns := [0, 1]) (xs := [.const (.int .i64 1), .tmp 90]) V tz_30 V tfl_30 V V V V (Za 92 V V V (Ym (xs := [.tmp 85, .tmp 87, .tmp 89, .tmp 91]) V V (HUg) by1 ?_))))))))))))))))
    refine Zs V V (Zq (cs' := [_, _, _, _]) (i := 1) V ts_30 V V V V V (Uf V) V (Za 7 V V V (Ze V V (Vs (Zb (Ya ?_))))))
    subst h2r
    first
     | exact Wz (i := 0) rfl rfl rfl rfl Wm rfl by0 (Vu _) ⟨rfl, rfl⟩
     | exact Wz (i := 1) rfl rfl rfl rfl Wm rfl by0 (Vu _) ⟨rfl, rfl⟩
     | exact Wz (i := 2) rfl rfl rfl rfl Wm rfl by0 (Vu _) ⟨rfl, rfl⟩
     | exact Wz (i := 3) rfl rfl rfl rfl Wm rfl by0 (Vu _) ⟨rfl, rfl⟩
   refine Zt V (Zg ?_)
   rw [show max ii 0 = ii by have := hfi rfl; omega]
   refine Zc (Za 32 V V V (Zd V V (Za 33 V V V (Yl (ns := [0, 1]) (xs := [.const (.int .i64 3), .tmp 32]) V tz_30 V tfl_30 V V V V (Za 11 V V V (Zy (cs' := [_, _, _, _]) V tz_30 V V ?_)))))); intro b11
   refine Zs V V (Zq (cs' := [_, _, _, _]) (i := 0) V ts_30 V V V V V (Uf V) V (Vs (Zb (Zg (Zg (Zc (Za 34 V V V (Yc (cs' := [_, _, _]) V Xw V V V (Za 35 V V V (Zd V V (Za 36 V V V (Zj V Wk V V (Za 37 V V V (Yc (cs' := [_, _, _, _]) V Xz V V V (Za 38 V V V (Ym (xs := [.tmp 34, .tmp 35, .tmp 37]) V V (HN) by1 ?_))))))))))))))))
   refine Za 39 V V V (Yy V tu_22 V (.seq _ _) (fun n39 => ?_))
   refine Za 40 V V V (Zd V V (Vs (Zb (Zz ?_))))
   refine c_lens (t := 38) V (.seq _ _) (fun hmax => ?_)
   refine We 30 4 ?_
   apply Wg [0, 2, 4, 8, 9, 10, 12, 13, 14, 15, 18, 19, 20, 21, 22, 23, 24, 25, 26, 27, 28, 29, 31, 32, 33, 34, 35, 36, 37, 40, 41, 42, 43, 44, 45, 46, 47, 48, 49, 50, 51, 52, 53, 54, 55, 56, 57, 58, 59, 60, 61] (σ := Nat × Bool × List Pf × Value) (fun zz => match zz with | (k, c10, acc, u) => [(40, .val (.int .i64 k)), (10, .val (.bool c10))]) (fun zz => match zz with | (k, c10, acc, u) => [.loc b11 [.val (.int .i64 3), .val (.int .i64 ii), .val (.string kE), .own u 4 (Pf.cellss acc)], .loc b6 [.val (.int .i64 0), .val (.int .i64 0), .val (.string kE), .val (.slice none 0 0)], .own 30 4 u]) (fun zz => match zz with | (k, c10, acc, u) => k ≤ l.length ∧ acc = (l.take k).map (fun q => (F q).1) ∧ c10 = (l.take k).all (fun q => (F q).2)) (fun zz => match zz with | (k, c10, acc, u) => l.length - k) ((0, true, [], .slice none 0 0))
   ·repeat' (first | exact Ui | apply Ug rfl | apply Uh rfl)
   ·exact ⟨Nat.zero_le _, V, V⟩
   ·exact by4
   ·exact (Vx _ (Ub (Vz _) (Ub (Vz _) (Ub (Vz _) (Ub (Le.nilOwn 4) (Ua _))))) (Vy V))
   rintro ⟨k, c10, acc, u⟩ hI
   try dsimp only [List.cons_append, List.nil_append] at hI ⊢
   obtain ⟨h1, ha, hb⟩ := hI
   have hle : (Pf.cellss acc).length ≤ 10000000000 := by rw [Pf.cellss_len, ha, List.length_map, List.length_take]; omega
   refine Zg (Zc (Za 41 V V V (Yu V V V ?_))); intro c41 h41
   refine Vs (Zb (Zg ?_))
   rcases Zi h41 with ⟨rfl, g41⟩ | ⟨rfl, g41⟩
   ·refine Zr V (Xc (Xe (Xv (Xd (Zb (Zg (Zc (Za 62 V V V (Zd V V (Vs (Zb ?_)))))))))))
    rcases c10 with _ | _
    ·refine Zr V (Zv (Zb (Zg (Zg (Zc (Za 64 V V V (Zd V V ?_)))))))
     refine Za 65 V V V (Yy V tu_22 V (.seq _ _) (fun n65 => ?_))
     refine Za 66 V V V (Zd V V (Vs (Zb (Zz ?_))))
     have hr : sp = (Pf.mk rk rn rc rl, rb) := by
      first
       | (rw [List.take_of_length_le (by omega)] at hb; rw [if_neg (fun q => by rw [← hb] at q; exact absurd q.2 (by simp))] at hr; exact hr)
       | (rw [if_neg (fun q => absurd q.1 (by simp))] at hr; exact hr)
     apply Xm [0, 1, 2, 4, 7, 8, 9, 10, 11, 12, 13, 14, 15, 16, 17, 18, 19, 20, 21, 22, 23, 24, 25, 26, 27, 28, 29, 31, 32, 33, 34, 35, 36, 37, 38, 39, 40, 41, 42, 43, 44, 45, 46, 47, 48, 49, 50, 51, 52, 53, 54, 55, 56, 57, 58, 59, 60, 61, 62, 63, 66, 67, 68, 69, 70, 71, 72, 73, 74, 75, 76, 77, 78, 79, 80, 81, 82, 83, 84, 85, 86, 87, 88, 89, 90, 91, 92, 93] (σ := Nat) (fun zz => match zz with | i => [(66, .val (.int .i64 i))]) (fun zz => match zz with | i => i ≤ gs.length ∧ findI pp (gs.drop i) i = si) (fun zz => match zz with | i => gs.length - i) (0)
     ·repeat' (first | exact Ui | apply Ug rfl | apply Uh rfl)
     ·exact ⟨Nat.zero_le _, hsi⟩
     ·exact by4
     rintro i hI
     try dsimp only [List.cons_append, List.nil_append] at hI ⊢
     obtain ⟨hi, hf⟩ := hI
     refine Zg (Zc (Za 67 V V V (Yu V V V ?_))); intro c67 h67
     refine Vs (Zb (Zg ?_))
     rcases Zi h67 with ⟨rfl, g67⟩ | ⟨rfl, g67⟩
     ·refine Zr V (Xc (Xe (Xv (Xd (Zb (Zg (Zc (Za 94 V V V (Yl (ns := []) (xs := []) V tz_30 V tfl_30 V V V V (Zs V V (Zq (cs' := [_, _, _, _]) (i := 1) V ts_30 V V V V V (Uf V) V (Za 7 V V V (Ze V V (Vs (Zb (Ya ?_))))))))))))))))
      rw [Ul (by omega), findI] at hf
      rw [hsn (by omega)] at hr
      cases hr
      first
       | exact Wz (i := 0) rfl rfl rfl rfl Wm rfl by0 (Vu _) ⟨rfl, rfl⟩
       | exact Wz (i := 1) rfl rfl rfl rfl Wm rfl by0 (Vu _) ⟨rfl, rfl⟩
       | exact Wz (i := 2) rfl rfl rfl rfl Wm rfl by0 (Vu _) ⟨rfl, rfl⟩
       | exact Wz (i := 3) rfl rfl rfl rfl Wm rfl by0 (Vu _) ⟨rfl, rfl⟩
     refine Zt V (Zv (Zb (Zg (Zz (Zg ?_)))))
     obtain ⟨⟨gc, ⟨gtk, gts, gtn, gtl⟩⟩, hxg⟩ := Yw (l := gs) (i := i) by7
     have hcg := Pr.cellss_get hxg
     have hmg := Uk hxg
     rw [Xp hxg, findI] at hf
     have HSg := HS (Pr.mk gc ⟨gtk, gts, gtn, gtl⟩)
     have HAg := HA (Pr.mk gc ⟨gtk, gts, gtn, gtl⟩)
     have HHg := HH (Pr.mk gc ⟨gtk, gts, gtn, gtl⟩)
     simp only [Ty.cells] at HSg HAg HHg
     refine Zc (Za 68 V V V (Zd V V (Za 69 V V V (Yd V te_22 V (.seq _ _) V V (hcg) (Za 70 V V V (Yc (cs' := [_, _, _, _, _]) V ta_27 V V V (Za 17 V V V (Zy (cs' := [_, _, _, _, _]) V tz_27 V V ?_)))))))); intro b17
     refine Za 16 V V V (Ze V V (Zs V V (Zq (cs' := [_, _, _, _, _]) (i := 0) V ts_27 V V V V V (Uf V) V (Vs (Zb (Zg (Vk 84 (Ty.mk gtk gts gtn gtl = Ty.mk pk ps pn pl ∧ pc ∈ av gc) Wo V ?_ _ _ V ?_)))))))
     ·skip
      refine Zm 71 V V (Zh V Wk V ⟨V, V⟩) ?_
      refine Zm 72 V V (Zx (cs' := [_, _, _, _]) (i := 0) V Xz V V V V ⟨V, V⟩) ?_
      refine Zm 73 V V (Zj V Wk V V ⟨V, V⟩) ?_
      refine Zm 74 V V (Yc (cs' := [_, _, _, _]) V Xz V V V ⟨V, V⟩) ?_
      refine Wd 75 V V (fun _ q => Yg (xs := [.tmp 72, .tmp 74]) V V (HSg) by1 q) ?_; intro c75 h75
      refine Zm 76 V V (Zd V V ⟨V, V⟩) ?_
      rcases Zi h75 with ⟨rfl, g75⟩ | ⟨rfl, g75⟩
      ·skip
       refine Zf 77 V V V V (Zf 78 V V V V (Zf 79 V V V V (Zf 80 V V V V (Zf 81 V V V V (Zf 82 V V V V (Zf 83 V V V V (Zm 84 V V (Zn V V V ⟨V, V⟩) ?_)))))))
       show BoolQ _ _ _ _ _ _
       refine Ud V ?_ by5 by3
       clear HSg HAg HHg HS HA HH HU HG HF HN IH; first | (simp_all; done) | grind
      skip
      refine Zu 77 V V V V (Yc (cs' := [_, _, _]) V Xw V V V ⟨V, V⟩) ?_
      refine Zu 78 V V V V (Zh V Vb V ⟨V, V⟩) ?_
      refine Zu 79 V V V V (Zp (i := 0) V Xb V V V ⟨V, V⟩) ?_
      refine Zu 80 V V V V (Ym (xs := [.tmp 77, .tmp 79]) V V (HAg) by1 ⟨V, V⟩) ?_
      refine Zu 81 V V V V (Zj V Vb V V ⟨V, V⟩) ?_
      refine Zu 82 V V V V (Zo V Xb V V ⟨V, V⟩) ?_
      refine Xi 83 V V V V (fun _ q => Yg (xs := [.tmp 80, .tmp 82]) V V (HHg) by1 q) ?_; intro c83 h83
      refine Zm 84 V V (Zn V V V ⟨V, V⟩) ?_
      show BoolQ _ _ _ _ _ _
      refine Ud V ?_ by5 by3
      clear HSg HAg HHg HS HA HH HU HG HF HN IH; first | (simp_all; done) | grind
     intro c84 h84
     refine Zb ?_
     rcases Zi h84 with ⟨rfl, g84⟩ | ⟨rfl, g84⟩
     ·refine Zr V (Zv (Yt (Zb (Zc (Za 93 V V V (Yx V V V (Uj _ (by omega)) ?_))))))
      refine Za 66 V V V (Zd V V (Vs (Yz ?_)))
      rw [if_neg (fun q => g84 ((hpq _).1 q))] at hf; exact ⟨i + 1, ⟨by show i + 1 ≤ gs.length; omega, hf⟩, by show gs.length - (i + 1) < gs.length - i; omega, by4, by3⟩
     refine Zt V (Zg ?_)
     rw [if_pos ((hpq _).2 g84)] at hf
     have hsp := hsh i _ hf.symm hxg
     rw [hsp] at hr
     have HUg := HU (Pr.mk gc ⟨gtk, gts, gtn, gtl⟩) i g84.2
     obtain ⟨h1r, h2r⟩ := Prod.mk.inj hr
     rw [h1r] at HUg
     simp only [Pf.cells] at HUg
     refine Zc (Za 85 V V V (Yc (cs' := [_, _, _]) V Xw V V V (Za 86 V V V (Zh V Vb V (Za 87 V V V (Zp (i := 0) V Xb V V V (Za 88 V V V (Zj V Vb V V (Za 89 V V V (Zo V Xb V V (Za 90 V V V (Zd V V (Za 91 V V V (Yl (ns := [0, 1]) (xs := [.const (.int .i64 1), .tmp 90]) V tz_30 V tfl_30 V V V V (Za 92 V V V (Ym (xs := [.tmp 85, .tmp 87, .tmp 89, .tmp 91]) V V (HUg) by1 ?_))))))))))))))))
     refine Zs V V (Zq (cs' := [_, _, _, _]) (i := 2) V ts_30 V V V V V (Uf V) V (Za 7 V V V (Ze V V (Vs (Zb (Ya ?_))))))
     subst h2r
     first
      | exact Wz (i := 0) rfl rfl rfl rfl Wm rfl by0 (Vu _) ⟨rfl, rfl⟩
      | exact Wz (i := 1) rfl rfl rfl rfl Wm rfl by0 (Vu _) ⟨rfl, rfl⟩
      | exact Wz (i := 2) rfl rfl rfl rfl Wm rfl by0 (Vu _) ⟨rfl, rfl⟩
      | exact Wz (i := 3) rfl rfl rfl rfl Wm rfl by0 (Vu _) ⟨rfl, rfl⟩
    refine Zt V (Zg (Zc (Za 63 V V V (Zx (cs' := [_, _, _, _]) (i := 0) V Wm V V V V (Zs V V (Zq (cs' := [_, _, _, _]) (i := 1) V ts_30 V V V V V (Uf V) V (Za 7 V V V (Ze V V (Vs (Zb (Ya ?_)))))))))))
    rw [List.take_of_length_le (by omega)] at ha hb
    rw [if_pos ⟨rfl, hb.symm⟩, ← ha] at hr
    cases hr
    first
     | exact Wz (i := 0) rfl rfl rfl rfl Wm rfl by0 (Vu _) ⟨rfl, rfl⟩
     | exact Wz (i := 1) rfl rfl rfl rfl Wm rfl by0 (Vu _) ⟨rfl, rfl⟩
   refine Zt V (Zv (Zb (Zg (Zz (Zg ?_)))))
   obtain ⟨⟨qc, ⟨qtk, qts, qtn, qtl⟩⟩, hxq⟩ := Yw (l := l) (i := k) by7
   have hcq := Pr.cellss_get hxq
   have hmq := Uk hxq
   have HP := IH _ hmq
   have hsq := Wl hxq
   obtain ⟨⟨⟨yk, yn, yc, yl⟩, c50⟩, hy⟩ : ∃ z, F (Pr.mk qc ⟨qtk, qts, qtn, qtl⟩) = z := ⟨_, rfl⟩
   rw [hy] at HP
   simp only [Pf.cells, Ty.cells] at HP
   refine Zc (Za 42 V V V (Yd V te_22 V (.seq _ _) V V (hcq) (Za 43 V V V (Yc (cs' := [_, _, _, _, _]) V ta_27 V V V (Za 13 V V V (Zy (cs' := [_, _, _, _, _]) V tz_27 V V ?_)))))); intro b13
   refine Zs V V (Zq (cs' := [_, _, _, _, _]) (i := 0) V ts_27 V V V V V (Uf V) V (Vs (Zb (Zg (Zc (Za 45 V V V (Yc (cs' := [_, _, _]) V Xw V V V (Za 46 V V V (Zd V V (Za 47 V V V (Zx (cs' := [_, _, _, _, _]) (i := 0) V ta_27 V V V V (Za 48 V V V (Ym (xs := [.tmp 45, .tmp 46, .tmp 47]) V V (HP) by1 ?_)))))))))))))
   refine Za 44 V V V (Zd V V (Za 49 V V V (Yv V V V (Za 50 V V V (Yv V V V (Za 14 V V V (Zy (cs' := [_, _, _, _]) V tz_30 V V ?_))))))); intro b14
   refine Zs V V (Zq (cs' := [_, _, _, _]) (i := 0) V ts_30 V V V V V (Uf V) V (Za 15 V V V (Ze V V (Vs (Zb (Zg (Xl 10 (c10 = true ∧ c50 = true) ?_ _ _ V ?_)))))))
   ·skip
    refine Za 51 V V V (Zd V V ?_)
    have h51 : (c10 = true ↔ c10 = true) := Iff.rfl
    refine Za 52 V V V (Zd V V ?_)
    rcases Zi h51 with ⟨rfl, g51⟩ | ⟨rfl, g51⟩
    ·skip
     refine Zk 53 V V V V V (Za 54 V V V (Zn V V V (Za 10 V V V (Ze V V (Vs (Ud V ?_ by5 by3))))))
     first | (simp_all; done) | grind
    skip
    refine Zl 53 V V V V V (Zd V V ?_)
    have h53 : (c50 = true ↔ c50 = true) := Iff.rfl
    refine Za 54 V V V (Zn V V V (Za 10 V V V (Ze V V (Vs (Ud V ?_ by5 by3)))))
    first | (simp_all; done) | grind
   intro c10 h10
   refine Zb (Zc (Za 55 V V V (Zh V tf_30_3 V (Za 56 V V V (Zp (i := 2) V ta_28 V V V (Za 57 V V V (Zx (cs' := [_, _, _, _]) (i := 0) V Wm V V V V (Za 58 V V V (Ye (xs := [.tmp 57]) el_28 V V V V V V (Uf V) (Za 59 V V V (Xj (i := 4) el_28 V V V V (.seq _ _) by6 ?_)))))))))))
   intro u59
   refine Za 60 V V V (Zh V tf_30_3 V (Zs V V (Zq (cs' := [_, _, _, _]) (i := 2) V ts_28 V V V V V (Uf V) V (Vs (Yt (Zb (Zc (Za 61 V V V (Yx V V V (Uj _ (by omega)) ?_)))))))))
   refine Za 40 V V V (Zd V V (Vs (Yz ?_)))
   exact ⟨(k + 1, c10, acc ++ [Pf.mk yk yn yc yl], u59), ⟨by show k + 1 ≤ l.length; omega, by show acc ++ _ = _; rw [hsq, List.map_append, ← ha]; simp [hy], by show c10 = _; rw [hsq, List.all_append, ← hb]; exact Bool.eq_iff_iff.2 (h10.trans (by simp [hy]))⟩, by show l.length - (k + 1) < l.length - k; omega, by4, (Vw _ (Vw _ (Vx _ (Ub (Vz _) (Ub (Vz _) (Ub (Vz _) (Ub (Ue (by rw [Pf.cellss_app']; rfl)) (Ua _))))) (Vy V))))⟩
  refine Zt V (Zg (Zc (Za 23 V V V (Zd V V (Za 24 V V V (Yl (ns := [0, 1]) (xs := [.const (.int .i64 1), .tmp 23]) V tz_30 V tfl_30 V V V V (Zs V V (Zq (cs' := [_, _, _, _]) (i := 0) V ts_30 V V V V V (Uf V) V (Za 7 V V V (Ze V V (Vs (Zb (Ya ?_)))))))))))))
  rw [if_pos g22] at hr
  cases hr
  exact Wz (i := 0) V V V V Wm V by0 (Vu _) ⟨V, V⟩
theorem fits_iff {v : En} (hv : EnC v) {p : Pr} {i : Nat} {y : In} (hy : v.ins[i]? = some y) : (y.c = p.c ∧ p.t.kind = 3 ∧ y.hd.name = p.t.name ∧ y.hd.kids.length = p.t.kids.length) ↔ (fitsR v p = true ∧ instI v p.c p.t.name = i) := by
 unfold fitsR
 rw [decide_eq_true_eq]
 constructor
 ·rintro ⟨h1, h2, h3, h4⟩
  have := hv.un i y hy
  rw [h1, h3] at this
  rw [this, show ((i : Int)).toNat = i by omega, hy]
  exact ⟨⟨by omega, h2, by simp [h4]⟩, V⟩
 rintro ⟨⟨h1, h2, h3⟩, h4⟩
 obtain ⟨z, hz, k1, k2⟩ := instI_hit h1
 rw [h4, show ((i : Int)).toNat = i by omega, hy] at hz
 cases hz
 rw [h4, show ((i : Int)).toNat = i by omega, hy] at h3
 simp at h3
 exact ⟨k1, h2, k2, h3.symm⟩
end Go.Proofs.YtknodnfbaofngaaGreat
namespace Go.Proofs.YtknodnfbaofngaaGreat
theorem climbF_holds {v : En} (hv : EnC v) {gs : List Pr} {to : ByteArray} {t : Ty} : ∀ (n : Nat) (c : ByteArray) (x : Pf), high v c < n → (c = to ∨ to ∈ aboveR v c) → holdsP v gs x (.mk c t) → holdsP v gs (climbF v to n c x) (.mk to t)
 | 0, c, x, h, _, _ => by omega
 | n + 1, c, x, h, hup, hx => by
  by_cases hne : c = to
  ·subst hne; rw [climbF_end]; exact hx
  obtain ⟨s, hu0, hc0, hsu, hed, hs⟩ := up_at (hup.resolve_left hne)
  have hlt := hv.high_lt hed
  rw [climbF_go n x hne hsu]
  refine climbF_holds hv n s _ (by omega) hs ?_
  rw [holds_2]
  exact ⟨hc0, hu0, hsu, by rw [holdsL_one]; exact ⟨x, V, hx⟩⟩
theorem givI_hit {gs : List Pr} {p : Pr} (h : 0 ≤ givI gs p) : gs[(givI gs p).toNat]? = some p := by
 obtain ⟨y, h1, h2, _⟩ := Vq (fun g => prB g p) gs 0 h
 have h1 : gs[(givI gs p).toNat]? = some y := h1
 rw [h1, prB_iff.1 h2]
theorem givI_mem {gs : List Pr} {p : Pr} (h : p ∈ gs) : 0 ≤ givI gs p := by
 obtain ⟨i, hi⟩ := List.mem_iff_getElem?.1 h
 exact (findI_min (fun g => prB g p) gs 0 i p hi (prB_iff.2 V)).2
theorem givI_iff {gs : List Pr} {p : Pr} : 0 ≤ givI gs p ↔ p ∈ gs := ⟨fun h => Uk (givI_hit h), givI_mem⟩
theorem supI_iff {v : En} {gs : List Pr} {p : Pr} : 0 ≤ supI v gs p ↔ ∃ g ∈ gs, g.t = p.t ∧ p.c ∈ aboveR v g.c := by
 constructor
 ·intro h
  obtain ⟨y, h1, h2, _⟩ := Vq (fun (g : Pr) => g.t.eqb p.t && hasB (aboveR v g.c) p.c) gs 0 h
  simp only [Bool.and_eq_true, Ty.eqb_iff, hasB_iff] at h2
  exact ⟨y, Uk h1, h2⟩
 rintro ⟨g, hg, h⟩
 obtain ⟨i, hi⟩ := List.mem_iff_getElem?.1 hg
 exact (findI_min (fun (g : Pr) => g.t.eqb p.t && hasB (aboveR v g.c) p.c) gs 0 i g hi (by simp only [Bool.and_eq_true, Ty.eqb_iff, hasB_iff]; exact h)).2
theorem supP_yes {v : En} {gs : List Pr} {p : Pr} (h : 0 ≤ supI v gs p) : ∃ g, gs[(supI v gs p).toNat]? = some g ∧ g.t = p.t ∧ p.c ∈ aboveR v g.c ∧ supP v gs p = (upF v g.c p.c (.mk 1 (supI v gs p) kE []), true) := by
 obtain ⟨y, h1, h2, _⟩ := Vq (fun (g : Pr) => g.t.eqb p.t && hasB (aboveR v g.c) p.c) gs 0 h
 simp only [Bool.and_eq_true, Ty.eqb_iff, hasB_iff] at h2
 have h1 : gs[(supI v gs p).toNat]? = some y := h1
 refine ⟨y, h1, h2.1, h2.2, ?_⟩
 have := supP_hit (v := v) (gs := gs) (p := p) (g := y) (i := (supI v gs p).toNat) (by omega) h1
 rw [this, show (((supI v gs p).toNat : Nat) : Int) = supI v gs p by omega]
theorem supP_iff {v : En} {gs : List Pr} {p : Pr} : (supP v gs p).2 = true ↔ 0 ≤ supI v gs p := by
 by_cases h : 0 ≤ supI v gs p
 ·obtain ⟨g, _, _, _, e⟩ := supP_yes h
  rw [e]; simp [h]
 rw [supP_no (by omega)]; simp [h]
theorem prove_iff {v : En} {gs : List Pr} {n : Nat} {p : Pr} : (proveF v gs (n + 1) p).2 = true ↔ (p ∈ gs ∨ (fitsR v p = true ∧ ∀ q ∈ needsR v (instI v p.c p.t.name) p.t, (proveF v gs n q).2 = true) ∨ ∃ g ∈ gs, g.t = p.t ∧ p.c ∈ aboveR v g.c) := by
 rw [← givI_iff, ← supI_iff, ← supP_iff, ← List.all_eq_true, proveF]
 by_cases h1 : 0 ≤ givI gs p
 ·rw [if_pos h1]; simp [h1]
 rw [if_neg h1]
 by_cases h2 : fitsR v p = true ∧ ((needsR v (instI v p.c p.t.name) p.t).all fun q => (proveF v gs n q).2) = true
 ·rw [if_pos h2]; exact ⟨fun _ => .inr (.inl h2), fun _ => rfl⟩
 rw [if_neg h2]
 exact ⟨fun h => .inr (.inr h), fun h => (h.resolve_left h1).resolve_left h2⟩
theorem holdsL_map {v : En} {gs : List Pr} {f : Pr → Pf} : ∀ {l : List Pr}, (∀ q ∈ l, holdsP v gs (f q) q) → holdsL v gs (l.map f) l
 | [], _ => by rw [List.map_nil, holdsL]; trivial
 | q :: l, h => by
  rw [List.map_cons, holdsL]
  exact ⟨h q (by simp), holdsL_map fun q hq => h q (by simp [hq])⟩
theorem prove_holds {v : En} (hv : EnC v) {gs : List Pr} : ∀ (n : Nat) (p : Pr), (proveF v gs n p).2 = true → holdsP v gs (proveF v gs n p).1 p
 | 0, p, h => by rw [proveF] at h; simp at h
 | n + 1, p, h => by
  rw [proveF] at h ⊢
  by_cases h1 : 0 ≤ givI gs p
  ·rw [if_pos h1, holds_1]
   exact ⟨V, V, h1, givI_hit h1⟩
  rw [if_neg h1] at h ⊢
  by_cases h2 : fitsR v p = true ∧ ((needsR v (instI v p.c p.t.name) p.t).all fun q => (proveF v gs n q).2) = true
  ·rw [if_pos h2, holds_3]
   obtain ⟨h2, h3⟩ := h2
   rw [List.all_eq_true] at h3
   have h0 : 0 ≤ instI v p.c p.t.name := by unfold fitsR at h2; exact (of_decide_eq_true h2).1
   obtain ⟨z, hz, _⟩ := instI_hit h0
   refine ⟨V, h0, ⟨z, hz, ?_⟩, holdsL_map fun q hq => prove_holds hv n q (h3 q hq)⟩
   exact (fits_iff hv (i := (instI v p.c p.t.name).toNat) hz).2 ⟨h2, by omega⟩
  rw [if_neg h2] at h ⊢
  obtain ⟨g, h3, h4, h5, h6⟩ := supP_yes (supP_iff.1 h)
  have h0 := supP_iff.1 h
  rw [h6]
  show holdsP v gs (upF v g.c p.c _) p
  have hg : holdsP v gs (.mk 1 (supI v gs p) kE []) (.mk g.c p.t) := by
   rw [holds_1]
   exact ⟨V, V, h0, by rw [h3, ← h4]; cases g; rfl⟩
  have := climbF_holds hv _ g.c _ (Nat.lt_succ_self _) (.inr h5) hg
  cases p
  exact this
def rowsF (W : Pr → List Pf) (l : List Pr) : List (List Pf) := l.foldl (fun out q => out.flatMap fun r => (W q).map fun x => r ++ [x]) [[]]
theorem rowsF_snoc (W : Pr → List Pf) (l : List Pr) (q : Pr) : rowsF W (l ++ [q]) = (rowsF W l).flatMap fun r => (W q).map fun x => r ++ [x] := by
 unfold rowsF
 rw [List.foldl_append]
 rfl
theorem rowsF_len {W : Pr → List Pf} : ∀ (l : List Pr) (out : List (List Pf)) (n : Nat), (∀ r ∈ out, r.length = n) → ∀ r ∈ l.foldl (fun out q => out.flatMap fun r => (W q).map fun x => r ++ [x]) out, r.length = n + l.length
 | [], out, n, h, r, hr => by simpa using h r hr
 | q :: l, out, n, h, r, hr => by
  rw [List.foldl_cons] at hr
  have := rowsF_len l _ (n + 1) (fun r hr => by
   obtain ⟨s, hs, hr⟩ := List.mem_flatMap.1 hr
   obtain ⟨x, _, rfl⟩ := List.mem_map.1 hr
   simp [h s hs]) r hr
  rw [this, List.length_cons]
  omega
theorem fm_get {α β γ : Type} {f : α → β → γ} {ws : List β} : ∀ {rs : List α} {k j : Nat} {r : α} {x : β}, rs[k]? = some r → ws[j]? = some x → (rs.flatMap fun r => ws.map (f r))[k * ws.length + j]? = some (f r x)
 | [], k, j, r, x, h, _ => by simp at h
 | s :: rs, 0, j, r, x, h, h' => by
  simp only [List.getElem?_cons_zero, Option.some.injEq] at h
  subst h
  have := (List.getElem?_eq_some_iff.1 h').1
  rw [List.flatMap_cons, List.getElem?_append_left (by simp; omega)]
  simp [h']
 | s :: rs, k + 1, j, r, x, h, h' => by
  rw [List.getElem?_cons_succ] at h
  rw [List.flatMap_cons, List.getElem?_append_right (by simp; rw [Nat.succ_mul]; omega)]
  rw [List.length_map, show (k + 1) * ws.length + j - ws.length = k * ws.length + j by rw [Nat.succ_mul]; omega]
  exact fm_get h h'
theorem fm_len {α β γ : Type} {f : α → β → γ} {ws : List β} (rs : List α) : (rs.flatMap fun r => ws.map (f r)).length = rs.length * ws.length := by
 induction rs with
 | nil => simp
 | cons s rs ih => rw [List.flatMap_cons, List.length_append, ih, List.length_map, List.length_cons, Nat.succ_mul]; omega
open Classical in
noncomputable def givsF (p : Pr) : List Pr → Nat → List Pf
 | [], _ => []
 | g :: gs, i => (if g = p then [.mk 1 i kE []] else []) ++ givsF p gs (i + 1)
def supsF (W : Pr → List Pf) (c : ByteArray) (t : Ty) (pc : ByteArray) : List ByteArray → Nat → List Pf
 | [], _ => []
 | s :: su, n => (if s = pc then (W (.mk c t)).map fun x => .mk 2 n c [x] else []) ++ supsF W c t pc su (n + 1)
def clsF (W : Pr → List Pf) (p : Pr) : List Cl → List Pf
 | [] => []
 | c :: cl => supsF W c.s p.t p.c c.su 0 ++ clsF W p cl
def insF (v : En) (W : Pr → List Pf) (p : Pr) : List Pf := if fitsR v p = true then (rowsF W (needsR v (instI v p.c p.t.name) p.t)).map fun r => .mk 3 (instI v p.c p.t.name) kE r else []
noncomputable def proofsF (v : En) (gs : List Pr) : Nat → Pr → List Pf
 | 0, _ => []
 | d + 1, p => givsF p gs 0 ++ (insF v (proofsF v gs d) p ++ clsF (proofsF v gs d) p v.cl)
theorem drop_cons {α : Type} {T : List α} {k : Nat} {x : α} {r : List α} (h : T.drop k = x :: r) : T[k]? = some x ∧ T.drop (k + 1) = r ∧ k + 1 ≤ T.length := by
 have h1 : T[k]? = some x := by
  have := congrArg (fun l => l[0]?) h
  simpa using this
 refine ⟨h1, ?_, (List.getElem?_eq_some_iff.1 h1).1⟩
 rw [← List.drop_drop, h]
 rfl
theorem drop_app {α : Type} {T : List α} {k : Nat} {A B : List α} (h : T.drop k = A ++ B) (hk : k ≤ T.length) : (∀ (j : Nat) (x : α), A[j]? = some x → T[k + j]? = some x) ∧ T.drop (k + A.length) = B ∧ k + A.length ≤ T.length := by
 refine ⟨fun j x hx => ?_, ?_, ?_⟩
 ·have := congrArg (fun l => l[j]?) h
  simp only [List.getElem?_drop] at this
  rw [this, List.getElem?_append_left (List.getElem?_eq_some_iff.1 hx).1, hx]
 ·rw [← List.drop_drop, h, List.drop_left]
 have := congrArg List.length h
 rw [List.length_drop, List.length_append] at this
 omega
theorem drop_end {α : Type} {T : List α} {k : Nat} (h : T.drop k = []) (hk : k ≤ T.length) : k = T.length := by
 have := congrArg List.length h
 rw [List.length_drop] at this
 simp at this
 omega
open Go.RowKit
def UpM (R : Mem → Prop) (M : Mem) : Prop := ∃ M', MLe M M' ∧ R M'
def IsL (p : EH → Obj → Prop) : Prop := ∀ F o, p F o → ∃ r, o = .loop r
theorem YCall.of_codeU {P : Program} {l n : Nat} {al : Sl} {ps : List Nat} {assign body : Code} {vs : List AV} {M0 : Mem} {Rn : Mem → Prop} {Rx : Code → Mem → Prop} (hps : ps.length = vs.length) (hin : (ps.all fun p => Nat.blt p n) = true)
    (h : ACode (some l) P n assign (Then (fun al1 M1 => ∀ p, IsL p → ACode (some l) P n body (RoundQ (UpM fun M => ∃ M2, M = .objp l p :: M2 ∧ Rn M2) (fun c => UpM fun M => ∃ M2, M = .objp l p :: M2 ∧ Rx c M2)) al1 (.objp l p :: M1)) (fun _ _ _ => False)) (putL al ps vs) M0) :
    YCall P l vs (lrec l n al ps.toArray assign body false none :: M0) (fun v M' => (v = .val (.bool true) ∧ ∃ M1, M' = lrec l n al ps.toArray assign body false none :: M1 ∧ Rn M1) ∨ (v = .val (.bool false) ∧ ∃ M1 c, M' = lrec l n al ps.toArray assign body false (some c) :: M1 ∧ Rx c M1)) := by
 intro B F Mf w us hi hr ro
 have hi : Inv B F (lrec l n al ps.toArray assign body false none :: (M0 ++ Mf)) w := hi
 obtain ⟨hB, hF, o, ho, _, hp⟩ := hi.ok _ (List.mem_cons_self)
 obtain ⟨r, rfl, ⟨hst, hpe⟩, hpa, has, hbo, hsl⟩ := hp F (Ext.refl F)
 have hlen := hr.len
 have hsz : us.toArray.size = r.params.size := by rw [hpa]; simp; omega
 have hfold : ((r.params.zip us.toArray).foldl (fun tmps (p : Tmp × Value) => tmps.setIfInBounds p.1 p.2) r.tmps) = (ps.zip us).foldl (fun t (p : Nat × Value) => t.setIfInBounds p.1 p.2) r.tmps := by
  rw [hpa, List.zip_toArray, List.foldl_toArray']
  simp
 refine ⟨r.fn, _, r.assign, r.body, run_yield ho hsz, roundIn_of_wpIn trivial ?_⟩
 rw [has, hbo]
 have hsl' : Slots n F (putL al ps vs) ((r.params.zip us.toArray).foldl (fun tmps (p : Tmp × Value) => tmps.setIfInBounds p.1 p.2) r.tmps) := by
  rw [hfold]
  exact putL_slots hsl hin hr hps
 have hcode := h B F (lrec l n al ps.toArray assign body false none :: Mf) { tmps := (r.params.zip us.toArray).foldl (fun tmps (p : Tmp × Value) => tmps.setIfInBounds p.1 p.2) r.tmps, defers := [] } w (Inv.mid.2 hi) hsl'
 have hcode : assign.wpIn ((RF ro).inRound l) 0 P _ _ w := hcode
 refine Code.wpIn_mono ?_ hcode
 rintro e a1 w1 ⟨Ds, F1, al1, M1, hq, hE1, hi1, hs1, hd1, hb1⟩
 cases e with
 | normal =>
  have hi1' : Inv B F1 (lrec l n al ps.toArray assign body false none :: (M1 ++ (Ds.map spent ++ Mf))) w1 := by
   refine hi1.perm ?_
   rw [← List.append_assoc, ← List.append_assoc]
   exact List.perm_middle
  obtain ⟨_, _, o1, ho1, _, hp1⟩ := hi1'.ok _ (List.mem_cons_self)
  obtain ⟨r1, rfl, ⟨hst1, hpe1⟩, hpa1, has1, hbo1, hsl1⟩ := hp1 F1 (Ext.refl F1)
  obtain ⟨_, hbl, hput⟩ := hi1'.objPut (.loop { r1 with state := .busy })
  have hi2 := hput rfl (LoopIs n al ps.toArray assign body true none) (fun F' e => ⟨_, rfl, rfl, hpa1, has1, hbo1, hsl1.mono e⟩)
  refine ⟨_, run_beginRound ho1 hst1, ?_⟩
  have hi2' : Inv B F1 ((lrec l n al ps.toArray assign body true none :: M1) ++ (Ds.map spent ++ Mf)) (w1.putObj l (.loop { r1 with state := .busy })) := hi2
  have hbody := hq _ (fun F o ⟨r, h, _⟩ => ⟨r, h⟩) B F1 (Ds.map spent ++ Mf) a1 _ hi2' hs1
  have hbody : body.wpIn ((RF ro).inRound l) 0 P _ a1 _ := hbody
  refine Code.wpIn_mono ?_ hbody
  rintro e a2 w2 ⟨Ds2, F2, al2, M2', hq2, hE2, hi3, hs2, hd2, hb2⟩
  have fin : ∀ (M2 : Mem), MLe M2' (lrec l n al ps.toArray assign body true none :: M2) → ∀ jump : Option Code, ∃ w', (Instr.endRound l jump).run P w2 = .ok (.bool jump.isNone) w' ∧ Inv B F2 ((lrec l n al ps.toArray assign body false jump :: M2) ++ Mf) w' ∧ Below B w w' := by
   intro M2 hle jump
   have hi3 := hi3.le hle
   have hi3' : Inv B F2 (lrec l n al ps.toArray assign body true none :: (M2 ++ (Ds2.map spent ++ (Ds.map spent ++ Mf)))) w2 := hi3
   obtain ⟨_, _, o3, ho3, _, hp3⟩ := hi3'.ok _ (List.mem_cons_self)
   obtain ⟨r3, rfl, hst3, hpa3, has3, hbo3, hsl3⟩ := hp3 F2 (Ext.refl F2)
   obtain ⟨_, hbl4, hput4⟩ := hi3'.objPut (.loop { r3 with state := if jump.isNone then .ready else .done, pending := jump })
   have hi4 := hput4 rfl (LoopIs n al ps.toArray assign body false jump) (fun F' e => ⟨_, rfl, ⟨rfl, rfl⟩, hpa3, has3, hbo3, hsl3.mono e⟩)
   refine ⟨_, run_endRound jump ho3, ?_, ((hb1.trans hbl).trans hb2).trans hbl4⟩
   refine hi4.sub ?_
   rw [List.cons_append]
   exact List.Sublist.cons_cons _ (List.Sublist.append (List.Sublist.refl _) (List.Sublist.trans (List.sublist_append_right _ _) (List.sublist_append_right _ _)))
  cases e with
  | normal =>
   obtain ⟨_, hM2, M2, rfl, hq2⟩ := hq2
   obtain ⟨w', h1, h2, h3⟩ := fin M2 hM2 none
   exact ⟨_, w', h1, _, _, _, F2, V, .inl ⟨V, M2, V, hq2⟩, .val _, hE1.trans hE2, h2, h3⟩
  | ret =>
   obtain ⟨_, hM2, M2, rfl, hq2⟩ := hq2
   obtain ⟨w', h1, h2, h3⟩ := fin M2 hM2 (some .ret)
   exact ⟨_, w', h1, _, _, _, F2, V, .inr ⟨V, M2, _, V, hq2⟩, .val _, hE1.trans hE2, h2, h3⟩
  | exit id =>
   obtain ⟨_, hM2, M2, rfl, hq2⟩ := hq2
   obtain ⟨w', h1, h2, h3⟩ := fin M2 hM2 (some (.exit id))
   exact ⟨_, w', h1, _, _, _, F2, V, .inr ⟨V, M2, _, V, hq2⟩, .val _, hE1.trans hE2, h2, h3⟩
  | goto t =>
   obtain ⟨_, hM2, M2, rfl, hq2⟩ := hq2
   obtain ⟨w', h1, h2, h3⟩ := fin M2 hM2 (some (.goto t))
   exact ⟨_, w', h1, _, _, _, F2, V, .inr ⟨V, M2, _, V, hq2⟩, .val _, hE1.trans hE2, h2, h3⟩
  | panic c => exact hq2.elim
  | outgrown => exact hq2.elim
 | exit id => exact hq.elim
 | goto t => exact hq.elim
 | ret => exact hq.elim
 | panic c => exact hq.elim
 | outgrown => exact hq.elim
theorem c_rangeU {P : Program} {n : Nat} {ks : List Kont} {Q : Exit → Sl → Mem → Prop} {al : Sl} {M : Mem} {g : Operand} {f : FuncId} {fs cs : List AV} {xs : List (List AV)} {ps : List Nat} {assign body : Code} (hg : al.ev g = some (.clo (.func f) fs cs)) (hit : Iter P f fs cs xs)
    (J : Nat → Mem → Prop) (Jx : Code → Mem → Prop) (h0 : J 0 M) (hps : ∀ x ∈ xs, ps.length = x.length) (hin : (ps.all fun p => Nat.blt p n) = true)
    (hbody : ∀ (l k : Nat) (x : List AV) (M0 : Mem), xs[k]? = some x → J k M0 → ACode (some l) P n assign (Then (fun al1 M1 => ∀ p, IsL p → ACode (some l) P n body (RoundQ (UpM fun M => ∃ M2, M = .objp l p :: M2 ∧ J (k + 1) M2) (fun c => UpM fun M => ∃ M2, M = .objp l p :: M2 ∧ Jx c M2)) al1 (.objp l p :: M1)) (fun _ _ _ => False)) (putL al ps x) M0)
    (hdone : ∀ M', J xs.length M' → AGo none P n ks Q al M') (hjump : ∀ c M', Jx c M' → ACode none P n c (after none P n ks Q) al M') :
    ACode none P n (.rangeFunc g ps.toArray assign body) (after none P n ks Q) al M := by
 intro B F Mf a w hi hs
 have h := hs.ev hg
 generalize he : a.eval g = u at h
 cases h with
 | clo _ hvf hvc =>
  rename_i vf vc
  refine wpIn_rangeFunc fun fn _ => ?_
  have hi1 := hi.newObj (.deferred (some [])) rfl (fun _ o' => o' = .deferred (some [])) (fun _ _ => rfl)
  let r0 : Loop := { state := .ready, pending := none, fn := fn, tmps := a.tmps, params := ps.toArray, assign := assign, body := body, defers := w.heap.size }
  have hi2 := hi1.newObj (.loop r0) rfl (LoopIs n al ps.toArray assign body false none) (fun F' e => ⟨r0, rfl, ⟨rfl, rfl⟩, rfl, rfl, rfl, hs.mono e⟩)
  have hl : (w.alloc (.deferred (some []))).heap.size = w.heap.size + 1 := by simp
  rw [hl] at hi2
  have hit' := hit (w.heap.size + 1) (fun k M => ∃ M0, M = lrec (w.heap.size + 1) n al ps.toArray assign body false none :: M0 ∧ J k M0) (fun _ M => ∃ M0 c, M = lrec (w.heap.size + 1) n al ps.toArray assign body false (some c) :: M0 ∧ Jx c M0) (by
   rintro k x M0 hx ⟨M1, rfl, hJ⟩
   refine YCall.mono (YCall.of_codeU (hps x (Uk hx)) hin (hbody _ k x M1 hx hJ)) ?_
   rintro v M' (⟨rfl, M2, rfl, h2⟩ | ⟨rfl, M2, c, rfl, h2⟩)
   ·exact .inl ⟨V, M2, V, h2⟩
   exact .inr ⟨V, M2, c, V, h2⟩) (lrec (w.heap.size + 1) n al ps.toArray assign body false none :: M) ⟨M, V, h0⟩
  have hB1 : Below B w ((w.alloc (.deferred (some []))).alloc (.loop r0)) := (alloc_below _ hi.base).trans (alloc_below _ (by have := hi.base; simp; omega))
  have hi2' : Inv B F ((lrec (w.heap.size + 1) n al ps.toArray assign body false none :: M) ++ (spent w.heap.size :: Mf)) ((w.alloc (.deferred (some []))).alloc (.loop r0)) := by
   refine hi2.perm ?_
   rw [List.cons_append]
   exact (List.Perm.cons _ (List.perm_middle (a := spent w.heap.size) (l₁ := M) (l₂ := Mf))).symm
  let W1 : World := (w.alloc (.deferred (some []))).alloc (.loop r0)
  refine ⟨w.heap.size + 1, [mark w.heap.size], W1, { target := .fn (.func f) vc.toArray, args := (vf ++ [Value.func (.yield (w.heap.size + 1)) #[] #[]]).toArray }, W1, f, (vf ++ [Value.func (.yield (w.heap.size + 1)) #[] #[]] ++ vc).toArray, W1, run_enterLoop_outer fn a.tmps ps.toArray assign body, ?_, fun _ _ => trivial, ?_, fun q => by simp [Fence.wide] at q, ?_⟩
  ·have hc : a.eval (.const (.func (.yield (w.heap.size + 1)) #[] #[])) = .func (.yield (w.heap.size + 1)) #[] #[] := rfl
   simp [resolve, he, Deferred.ofValue, hc]
  ·simp only [invoke, List.append_toArray]
   exact hit'.ent _ _
  refine callsIn_RF.2 ((hit'.run B F (spent w.heap.size :: Mf) _ _ hi2' ((hvf.app (Rels.cons (.val _) .nil)).app hvc)).mono ?_)
  rintro e w3 ⟨u, v, M', F', rfl, hor, _, hE, hi3, hb3⟩
  rcases hor with ⟨M0, rfl, hJ⟩ | ⟨_, _, M0, c, rfl, hJ⟩
  ·have hi3 : Inv B F' (lrec (w.heap.size + 1) n al ps.toArray assign body false none :: (M0 ++ (spent w.heap.size :: Mf))) w3 := hi3
   obtain ⟨_, _, o3, ho3, _, hp3⟩ := hi3.ok _ (List.mem_cons_self)
   obtain ⟨r3, rfl, ⟨hst3, hpe3⟩, _⟩ := hp3 F' (Ext.refl F')
   obtain ⟨hi4, hbl4, _⟩ := hi3.objPut (.loop { r3 with state := .exhausted })
   have hend : (Instr.endLoop (w.heap.size + 1)).run P w3 = .ok (none) (w3.putObj (w.heap.size + 1) (.loop { r3 with state := .exhausted })) := by
    rw [run_endLoop (P := P) ho3 (by rw [hst3]; simp), hpe3]
   refine ⟨none, _, hend, ?_⟩
   exact ⟨[w.heap.size], F', al, M0, hdone M0 hJ, hE, hi4, hs.mono hE, V, (hB1.trans hb3).trans hbl4⟩
  have hi3 : Inv B F' (lrec (w.heap.size + 1) n al ps.toArray assign body false (some c) :: (M0 ++ (spent w.heap.size :: Mf))) w3 := hi3
  obtain ⟨_, _, o3, ho3, _, hp3⟩ := hi3.ok _ (List.mem_cons_self)
  obtain ⟨r3, rfl, ⟨hst3, hpe3⟩, _⟩ := hp3 F' (Ext.refl F')
  obtain ⟨hi4, hbl4, _⟩ := hi3.objPut (.loop { r3 with state := .exhausted })
  have hend : (Instr.endLoop (w.heap.size + 1)).run P w3 = .ok (some c) (w3.putObj (w.heap.size + 1) (.loop { r3 with state := .exhausted })) := by
   rw [run_endLoop (P := P) ho3 (by rw [hst3]; simp), hpe3]
  refine ⟨some c, _, hend, ?_⟩
  refine Code.wpIn_mono ?_ (hjump c M0 hJ B F' (spent w.heap.size :: Mf) { a with defers := mark w.heap.size :: a.defers } _ hi4 (hs.mono hE))
  intro e a5 w5 hp
  exact PostD.next (Ds := [w.heap.size]) hE ((hB1.trans hb3).trans hbl4) hp
theorem c_rangeN {P : Program} {n l0 i0 : Nat} {p0 : EH → Obj → Prop} {ks : List Kont} {Q : Exit → Sl → Mem → Prop} {al : Sl} {M : Mem} {g : Operand} {f : FuncId} {fs cs : List AV} {xs : List (List AV)} {ps : List Nat} {assign body : Code} (hg : al.ev g = some (.clo (.func f) fs cs)) (hit : Iter P f fs cs xs) (hm : M[i0]? = some (.objp l0 p0)) (hp0 : IsL p0)
    (J : Nat → Mem → Prop) (Jx : Code → Mem → Prop) (h0 : J 0 M) (hps : ∀ x ∈ xs, ps.length = x.length) (hin : (ps.all fun p => Nat.blt p n) = true)
    (hbody : ∀ (l k : Nat) (x : List AV) (M0 : Mem), xs[k]? = some x → J k M0 → ACode (some l) P n assign (Then (fun al1 M1 => ∀ p, IsL p → ACode (some l) P n body (RoundQ (UpM fun M => ∃ M2, M = .objp l p :: M2 ∧ J (k + 1) M2) (fun c => UpM fun M => ∃ M2, M = .objp l p :: M2 ∧ Jx c M2)) al1 (.objp l p :: M1)) (fun _ _ _ => False)) (putL al ps x) M0)
    (hdone : ∀ M', J xs.length M' → AGo (some l0) P n ks Q al M') (hjump : ∀ c M', Jx c M' → ACode (some l0) P n c (after (some l0) P n ks Q) al M') :
    ACode (some l0) P n (.rangeFunc g ps.toArray assign body) (after (some l0) P n ks Q) al M := by
 intro B F Mf a w hi hs
 have h := hs.ev hg
 generalize he : a.eval g = u at h
 cases h with
 | clo _ hvf hvc =>
  rename_i vf vc
  refine wpIn_rangeFunc fun fn _ => ?_
  obtain ⟨_, _, o0, ho0, _, hpo⟩ := hi.ok _ (List.mem_append_left _ (Uk hm))
  obtain ⟨r00, rfl⟩ := hp0 F _ (hpo F (Ext.refl F))
  let r0 : Loop := { state := .ready, pending := none, fn := fn, tmps := a.tmps, params := ps.toArray, assign := assign, body := body, defers := r00.defers }
  have hi2 := hi.newObj (.loop r0) rfl (LoopIs n al ps.toArray assign body false none) (fun F' e => ⟨r0, rfl, ⟨rfl, rfl⟩, rfl, rfl, rfl, hs.mono e⟩)
  have hit' := hit (w.heap.size) (fun k M => ∃ M0, M = lrec (w.heap.size) n al ps.toArray assign body false none :: M0 ∧ J k M0) (fun _ M => ∃ M0 c, M = lrec (w.heap.size) n al ps.toArray assign body false (some c) :: M0 ∧ Jx c M0) (by
   rintro k x M0 hx ⟨M1, rfl, hJ⟩
   refine YCall.mono (YCall.of_codeU (hps x (Uk hx)) hin (hbody _ k x M1 hx hJ)) ?_
   rintro v M' (⟨rfl, M2, rfl, h2⟩ | ⟨rfl, M2, c, rfl, h2⟩)
   ·exact .inl ⟨V, M2, V, h2⟩
   exact .inr ⟨V, M2, c, V, h2⟩) (lrec (w.heap.size) n al ps.toArray assign body false none :: M) ⟨M, V, h0⟩
  have hB1 : Below B w (w.alloc (.loop r0)) := alloc_below _ hi.base
  let W1 : World := w.alloc (.loop r0)
  refine ⟨w.heap.size, [], W1, { target := .fn (.func f) vc.toArray, args := (vf ++ [Value.func (.yield (w.heap.size)) #[] #[]]).toArray }, W1, f, (vf ++ [Value.func (.yield (w.heap.size)) #[] #[]] ++ vc).toArray, W1, run_enterLoop_inner ho0 fn a.tmps ps.toArray assign body, ?_, fun _ _ => trivial, ?_, fun q => by simp [Fence.wide] at q, ?_⟩
  ·have hc : a.eval (.const (.func (.yield (w.heap.size)) #[] #[])) = .func (.yield (w.heap.size)) #[] #[] := rfl
   simp [resolve, he, Deferred.ofValue, hc]
  ·simp only [invoke, List.append_toArray]
   exact hit'.ent _ _
  refine callsIn_RF.2 ((hit'.run B F Mf _ _ hi2 ((hvf.app (Rels.cons (.val _) .nil)).app hvc)).mono ?_)
  rintro e w3 ⟨u, v, M', F', rfl, hor, _, hE, hi3, hb3⟩
  rcases hor with ⟨M0, rfl, hJ⟩ | ⟨_, _, M0, c, rfl, hJ⟩
  ·have hi3 : Inv B F' (lrec (w.heap.size) n al ps.toArray assign body false none :: (M0 ++ Mf)) w3 := hi3
   obtain ⟨_, _, o3, ho3, _, hp3⟩ := hi3.ok _ (List.mem_cons_self)
   obtain ⟨r3, rfl, ⟨hst3, hpe3⟩, _⟩ := hp3 F' (Ext.refl F')
   obtain ⟨hi4, hbl4, _⟩ := hi3.objPut (.loop { r3 with state := .exhausted })
   have hend : (Instr.endLoop (w.heap.size)).run P w3 = .ok (none) (w3.putObj (w.heap.size) (.loop { r3 with state := .exhausted })) := by
    rw [run_endLoop (P := P) ho3 (by rw [hst3]; simp), hpe3]
   refine ⟨none, _, hend, ?_⟩
   exact ⟨[], F', al, M0, hdone M0 hJ, hE, hi4, hs.mono hE, V, (hB1.trans hb3).trans hbl4⟩
  have hi3 : Inv B F' (lrec (w.heap.size) n al ps.toArray assign body false (some c) :: (M0 ++ Mf)) w3 := hi3
  obtain ⟨_, _, o3, ho3, _, hp3⟩ := hi3.ok _ (List.mem_cons_self)
  obtain ⟨r3, rfl, ⟨hst3, hpe3⟩, _⟩ := hp3 F' (Ext.refl F')
  obtain ⟨hi4, hbl4, _⟩ := hi3.objPut (.loop { r3 with state := .exhausted })
  have hend : (Instr.endLoop (w.heap.size)).run P w3 = .ok (some c) (w3.putObj (w.heap.size) (.loop { r3 with state := .exhausted })) := by
   rw [run_endLoop (P := P) ho3 (by rw [hst3]; simp), hpe3]
  refine ⟨some c, _, hend, ?_⟩
  refine Code.wpIn_mono ?_ (hjump c M0 hJ B F' Mf a _ hi4 (hs.mono hE))
  intro e a5 w5 hp
  exact PostD.next (Ds := []) hE ((hB1.trans hb3).trans hbl4) hp
theorem ACode.freezep {ro : Option Nat} {n' : Nat} {Q : Exit → Sl → Mem → Prop} {c : Code} {al al' : Sl} {M : Mem} {P : Program} {b i : Nat} {cs : List AV} (hm : M[i]? = some (.loc b cs))
    (hs : ∀ t v', al'.lookup t = some v' → ∃ v, al.lookup t = some v ∧ (Le v v' ∨ v = .ptr b 0 ∧ v' = .cptr cs))
    (h : ACode ro P n' c Q al' (M.eraseIdx i)) : ACode ro P n' c Q al M := by
 intro B F Mf a w hi hsl
 have hi2 := hi.perm ((perm_at hm).append_right Mf)
 rw [List.cons_append] at hi2
 obtain ⟨hB, hF, vs, T, hb, hr, h1⟩ := hi2.ok _ (List.mem_cons_self)
 have hfar := hi2.far
 rw [List.pairwise_cons] at hfar
 have hbl : b < w.heap.size := (hi2.ok _ (List.mem_cons_self)).lt (r := .loc b cs) rfl
 have hext : Ext F (F.new b vs) := by
  intro b' j x hx
  unfold EH.new
  split
  ·rename_i e; subst e; rw [hF j] at hx; simp at hx
  exact hx
 have hinv : Inv B (F.new b vs) (M.eraseIdx i ++ Mf) w := by
  refine ⟨hi.base, fun b' j x hx => ?_, fun r hr' => ?_, hfar.2⟩
  ·unfold EH.new at hx
   split at hx
   ·rename_i e; subst e
    rw [cell_block hb]; exact hx
   exact hi.fix b' j x hx
  refine (hi2.ok r (List.mem_cons_of_mem _ hr')).stay hext (fun b' hb' => ⟨V, fun j => ?_⟩)
  unfold EH.new
  rw [if_neg]
  intro e
  subst e
  rcases hfar.1 r hr' with k | k
  ·simp [Res.blk] at k
  exact k hb'.symm
 have := h B (F.new b vs) Mf a w hinv ⟨hsl.1, fun t v' e => ?_⟩
 ·exact Code.wpIn_mono (fun e a w hp => PostD.next (Ds := []) hext (Below.refl _ _) hp) this
 obtain ⟨v, h2, h3⟩ := hs t v' e
 obtain ⟨h4, h5⟩ := hsl.2 t v h2
 refine ⟨h4, ?_⟩
 rcases h3 with h3 | ⟨rfl, rfl⟩
 ·exact h3 _ _ (h5.mono hext)
 generalize a.tmps.getD t undef = y at h5
 cases h5
 exact .cptr b 0 (EH.new_lies _ _ _) (hr.mono hext) h1
theorem c_frzp {ro : Option Nat} {P : Program} {n : Nat} {ks : List Kont} {Q : Exit → Sl → Mem → Prop} {c : Code} {al : Sl} {M : Mem} {b i : Nat} {cs : List AV} (t : Nat) (hm : M[i]? = some (.loc b cs)) (ht : al.lookup t = some (.ptr b 0)) (h : ACode ro P n c (after ro P n ks Q) ((t, .cptr cs) :: al) (M.eraseIdx i)) : ACode ro P n c (after ro P n ks Q) al M :=
 ACode.freezep hm (fun t' v' e => by
  by_cases q : t' = t
  ·subst q
   simp only [List.lookup_cons, beq_self_eq_true, Option.some.injEq] at e
   exact ⟨_, ht, .inr ⟨V, e.symm⟩⟩
  rw [List.lookup_cons, show (t' == t) = false by simpa using q] at e
  exact ⟨_, e, .inl (Vz _)⟩) h
theorem CloneP_c (ks : List Pf) (hb : ks.length ≤ 100000000) : OCall Tryz.prog 100 [.seq 4 (Pf.cellss ks)] 30 4 (Pf.cellss ks) := by
 have hl := Pf.cellss_len ks
 refine Zw Tryz.func100 V (by kernel_rfl) V (Uf V) ?_
 refine Yf (Zg (Zc (Za 2 V V V (Ze V V (Vs (Zb (Zg (Zg (Zc (Za 3 V V V (Zd V V (Za 4 V V V (op_isnil V tu_28 V (.seq _ _) ?_)))))))))))))
 intro c4 h4
 refine Vs (Zb ?_)
 rcases c4 with _ | _
 ·refine Zr V (Zv (Zb (Zg (Zc (Za 5 V V V (op_buildSlice_own (xs := []) el_28 V V V V V V (Uf V) ?_)))))); intro u5
  refine Za 6 V V V (Zd V V (Za 7 V V V (Xj (i := 0) el_28 V V V V (.seq _ _) by6 ?_)))
  intro u7
  exact Za 2 V V V (Ze V V (Vs (Zb (Ya (Yh V V (Vz _) by3 ⟨_, V, V⟩)))))
 refine Zt V (Zg (Zc (Za 2 V V V (Ze V V (Vs (Zb (We 30 4 (Ya ?_))))))))
 rw [h4 rfl]; exact Yh rfl rfl (Le.nilOwn 4) (Vt _) ⟨_, rfl, rfl⟩
def fAV (v : En) (gs : List Pr) : AV := .cptr (v.cells ++ [.seq 5 (Pr.cellss gs)])
theorem proofs_c (v : En) (gs : List Pr) (p : Pr) (d : Int) : PCall Tryz.prog 47 [fAV v gs, .agg p.cells, .val (.int .i64 d)] (.clo (.func 76) [] [.cptr [.val (.int .i64 d)], .cptr [fAV v gs], .cptr p.cells]) := by
 obtain ⟨pc, ⟨pk, ps, pn, pl⟩⟩ := p
 simp only [Pr.cells, Ty.cells]
 unfold fAV
 refine Zw Tryz.func47 V (by kernel_rfl) V (Uf V) ?_
 exact Yf (Zg (Zc (Za 3 V V V (Ys (cs' := [_]) V V V V (Za 4 V V V (Ys (cs' := [_, _, _, _, _]) V V V V (Za 5 V V V (Ys (cs' := [_]) V V V V (Za 6 V V V (Ze V V (Vs (Zb (Zg (Zc (Za 7 V V V (op_makeFunc (fs := []) (cs := [.tmp 5, .tmp 3, .tmp 4]) V V V (Za 6 V V V (Ze V V (Vs (Zb (Ya (Yh V V (Vz _) by3 ⟨V, V⟩))))))))))))))))))))))
theorem rows_c (v : En) (gs : List Pr) (es : List (List AV)) (d : Int) : PCall Tryz.prog 77 [fAV v gs, .seq 5 es, .val (.int .i64 d)] (.clo (.func 99) [] [.cptr [.seq 5 es], .cptr [fAV v gs], .cptr [.val (.int .i64 d)]]) := by
 unfold fAV
 refine Zw Tryz.func77 V (by kernel_rfl) V (Uf V) ?_
 exact Yf (Zg (Zc (Za 3 V V V (Ys (cs' := [_]) V V V V (Za 4 V V V (Ys (cs' := [_]) V V V V (Za 5 V V V (Ys (cs' := [_]) V V V V (Za 6 V V V (Ze V V (Vs (Zb (Zg (Zc (Za 7 V V V (op_makeFunc (fs := []) (cs := [.tmp 4, .tmp 3, .tmp 5]) V V V (Za 6 V V V (Ze V V (Vs (Zb (Ya (Yh V V (Vz _) by3 ⟨V, V⟩))))))))))))))))))))))
def rowA (r : List Pf) : List AV := [.seq 4 (Pf.cellss r)]
def pfA (x : Pf) : List AV := [.agg x.cells]
theorem rowsIt_nil (fv : AV) (dv : Int) : Iter Tryz.prog 99 [] [.cptr [.seq 5 []], .cptr [fv], .cptr [.val (.int .i64 dv)]] (([[]] : List (List Pf)).map rowA) := by
 intro l J Jx hy M0 h0
 have hy0 := hy 0 (rowA []) M0 rfl h0
 simp only [rowA, Pf.cellss] at hy0
 refine Zw Tryz.func99 V (by kernel_rfl) V (Uf V) ?_
 refine Yf (Zg (Zc (Za 4 V V V (Ys (cs' := [_]) V V V V (Vs (Zb (Zg (Zg (Zc (Za 8 V V V (Zo V ta_22 V V ?_)))))))))))
 refine Za 9 V V V (Yy V tu_22 V (.seq _ _) (fun n9 => ?_))
 refine Za 10 V V V (Yr V V V ?_); intro c10 h10
 refine Vs (Zb ?_)
 rcases Zi h10 with ⟨rfl, g10⟩ | ⟨rfl, g10⟩
 ·exact absurd V g10
 refine Zt V (Zg (Zc (Za 11 V V V (Zo V ta_158 V V ?_))))
 refine Za 12 V V V (op_yield (xs := [.const (.slice none 0 0)])  [] V V V V hy0 (Ub (Le.nil _) (Ua _)) (fun v12 M12 h12 => ?_))
 obtain ⟨c12, rfl, hT, hF⟩ := yres h12
 refine Vs (Zb (Ya (out_none' V (Vt _) ?_)))
 cases c12
 ·exact .inr ⟨1, by simp, hF V⟩
 exact .inl (hT V)
theorem rowsIt_snoc (v : En) (gs : List Pr) (dv : Int) (l : List Pr) (n : Nat) (q : Pr) (hn : l.length = n + 1) (hq : l[n]? = some q) (R : List (List Pf)) (W : List Pf) (hR : ∀ r ∈ R, r.length ≤ 100000000)
    (HR : Iter Tryz.prog 99 [] [.cptr [.seq 5 ((Pr.cellss l).take n)], .cptr [fAV v gs], .cptr [.val (.int .i64 dv)]] (R.map rowA))
    (HW : Iter Tryz.prog 76 [] [.cptr [.val (.int .i64 dv)], .cptr [fAV v gs], .cptr q.cells] (W.map pfA)) :
    Iter Tryz.prog 99 [] [.cptr [.seq 5 (Pr.cellss l)], .cptr [fAV v gs], .cptr [.val (.int .i64 dv)]] ((R.flatMap fun r => W.map fun x => r ++ [x]).map rowA) := by
 intro lp J Jx hy M0 h0
 have hcl := Pr.cellss_len l
 have hcq := Pr.cellss_get hq
 have HC := rows_c v gs ((Pr.cellss l).take n) dv
 have HP := proofs_c v gs q dv
 have HK := fun r hr => CloneP_c r (hR r hr)
 have hy' : ∀ k j r x M, R[k]? = some r → W[j]? = some x → J (k * W.length + j) M → YCall Tryz.prog lp [.seq 4 (Pf.cellss r ++ [x.cells])] M (fun v M' => (v = .val (.bool true) ∧ J (k * W.length + j + 1) M') ∨ (v = .val (.bool false) ∧ Jx (k * W.length + j + 1) M')) := fun k j r x M hr hx hJ => by
  have := hy (k * W.length + j) (rowA (r ++ [x])) M (by rw [List.getElem?_map, fm_get (f := fun r x => r ++ [x]) hr hx]; rfl) hJ
  rw [rowA, Pf.cellss_app'] at this
  exact this
 have hlen : ((R.flatMap fun r => W.map fun x => r ++ [x]).map rowA).length = R.length * W.length := by rw [List.length_map, fm_len (f := fun r x => r ++ [x])]
 rw [hlen]
 have hle : ∀ k j, k < R.length → j < W.length → k * W.length + j + 1 ≤ R.length * W.length := fun k j hk hj => by
  have : (k + 1) * W.length ≤ R.length * W.length := Nat.mul_le_mul_right _ hk
  rw [Nat.succ_mul] at this
  omega
 clear hy hlen
 generalize fAV v gs = fv at *
 obtain ⟨qc, ⟨qk, qs, qn, ql⟩⟩ := q
 simp only [Pr.cells, Ty.cells] at hcq HP HW
 refine Zw Tryz.func99 V (by kernel_rfl) V (Uf V) ?_
 refine Yf ?_
 refine c_lenp (t := 1) (j := 0) V V (.seq _ _) (fun hmax => ?_)
 refine Zg (Zc (Za 4 V V V (Ys (cs' := [_]) V V V V (Vs (Zb (Zg (Zg (Zc (Za 8 V V V (Zo V ta_22 V V ?_))))))))))
 refine Za 9 V V V (Yy V tu_22 V (.seq _ _) (fun n9 => ?_))
 refine Za 10 V V V (Yr V V V ?_); intro c10 h10
 refine Vs (Zb ?_)
 rcases Zi h10 with ⟨rfl, g10⟩ | ⟨rfl, g10⟩
 ·refine Zr V (Zv (Zb (Zg (Zc (Za 13 V V V (Zo V ta_22 V V ?_))))))
  refine Za 14 V V V (Yy V tu_22 V (.seq _ _) (fun n14 => ?_))
  refine Za 15 V V V (op_sub V V V (Uj _ (by omega)) ?_)
  refine Za 5 V V V (Zy (cs' := [_]) V tz_3 V V ?_); intro b5
  refine Zs V V (Zq (cs' := [_]) (i := 0) V Wh V V V V V (Uf V) V (Vs (Zb (Zg ?_))))
  rw [show ((Pr.cellss l).length : Int) - 1 = n by omega]
  refine Vl Wo V (Zm 16 V V (Zo V ta_83 V V ⟨V, V⟩) ?_)
  refine Zm 17 V V (Zo V ta_22 V V ⟨V, V⟩) ?_
  refine Zm 18 V V (Zp (i := 0) V Xa V V V ⟨V, V⟩) ?_
  refine Zm 19 V V (op_cuth (k := n) V te_22 V (.seq _ _) V (by omega) (by omega) ⟨V, V⟩) ?_
  refine Zm 20 V V (Zo V Xa V V ⟨V, V⟩) ?_
  refine Zm 21 V V (Ym (xs := [.tmp 16, .tmp 19, .tmp 20]) V V (HC) by1 ⟨V, V⟩) ?_
  show AGo _ _ _ _ _ _ _
  refine Zb (Zz ?_)
  refine c_rangeU (xs := R.map rowA) (ps := [22]) V (HR) (fun k M => ∃ M1, M = .loc b5 [.val (.int .i64 n)] :: M1 ∧ J (k * W.length) M1) (fun c M => c = .ret ∧ ∃ M1 kk, M = .loc b5 [.val (.int .i64 n)] :: M1 ∧ kk ≤ R.length * W.length ∧ Jx kk M1) (⟨_, V, by rw [Nat.zero_mul]; exact h0⟩) (by simp [rowA]) V ?_ ?_ ?_
  ·rintro l5 k5 x5 M0 hx hJ
   obtain ⟨M1, rfl, hJ1⟩ := hJ
   simp only [List.getElem?_map, Option.map_eq_some_iff] at hx
   obtain ⟨r, hxr, rfl⟩ := hx
   have hkr := Vf hxr
   have hrl := Pf.cellss_len r
   have hrb := hR r (Uk hxr)
   have HKr := HK r (Uk hxr)
   have hy2 := fun j x M => hy' k5 j r x M hxr
   refine c_asg (Zc (Za 6 V V V (Zy (cs' := [_]) V tz_28 V V ?_))); intro b6
   refine Zs V V (Zq (cs' := [_]) (i := 0) V ts_28 V V V V V (Uf V) V (Vs (Yz ?_)))
   intro p5 hp5
   show ACode _ _ _ _ _ _ _
   refine Yf (Zz (Zg (c_frzp (i := 1) 6 V V (Vl Wo V (Zm 23 V V (Zo V ta_83 V V ⟨V, V⟩) ?_)))))
   refine Zm 24 V V (Zo V ta_22 V V ⟨V, V⟩) ?_
   refine Zm 25 V V (Zp (i := 1) V Xa V V V ⟨V, V⟩) ?_
   refine Zm 26 V V (Yd V te_22 V (.seq _ _) V V (hcq) ⟨V, V⟩) ?_
   refine Zm 27 V V (Yc (cs' := [_, _, _, _, _]) V ta_27 V V V ⟨V, V⟩) ?_
   refine Zm 28 V V (Zo V Xa V V ⟨V, V⟩) ?_
   refine Zm 29 V V (Ym (xs := [.tmp 23, .tmp 27, .tmp 28]) V V (HP) by1 ⟨V, V⟩) ?_
   show AGo _ _ _ _ _ _ _
   refine Zb (Zz ?_)
   refine c_rangeN (i0 := 0) (xs := W.map pfA) (ps := [30]) V (HW) V (hp5) (fun j M => ∃ M2, M = .objp l5 p5 :: .loc b5 [.val (.int .i64 n)] :: M2 ∧ J (k5 * W.length + j) M2) (fun c M => c = .ret ∧ ∃ M2 kk, M = .objp l5 p5 :: .loc b5 [.val (.int .i64 n)] :: M2 ∧ kk ≤ R.length * W.length ∧ Jx kk M2) (⟨_, V, by rw [Nat.add_zero]; exact hJ1⟩) (by simp [pfA]) V ?_ ?_ ?_
   ·rintro l7 k7 x7 M0 hx hJ
    obtain ⟨M2, rfl, hJ2⟩ := hJ
    simp only [List.getElem?_map, Option.map_eq_some_iff] at hx
    obtain ⟨⟨xk, xn, xc, xl⟩, hxw, rfl⟩ := hx
    have hkw := Vf hxw
    have hy3 := hy2 _ _ _ hxw hJ2
    have hle3 := hle _ _ hkr hkw
    simp only [Pf.cells] at hy3
    refine c_asg (Zc (Za 7 V V V (Zy (cs' := [_, _, _, _]) V tz_30 V V ?_))); intro b7
    refine Zs V V (Zq (cs' := [_, _, _, _]) (i := 0) V ts_30 V V V V V (Uf V) V (Vs (Yz ?_)))
    intro p7 hp7
    show ACode _ _ _ _ _ _ _
    refine Yf (Zz (Zg (c_frzp (i := 1) 7 V V (Xu [0, 1, 3, 4, 2, 5, 6, 7] [2, 5, 6] [[], [], [1], [], [3], [1, 2, 3, 4], [0, 1, 2, 3, 4, 5], [0, 1, 2, 3, 4, 5, 6]] Wo V (Yb 31 (none) (i := 0) V V V V V (Zo V ta_158 V V ⟨V, V⟩) ?_)))))
    refine Yb 32 (none) (i := 1) V V V V V (Zo V ta_28 V V ⟨V, V⟩) ?_
    refine Yb 34 (none) (i := 3) V V V V V (Yc (cs' := [_, _, _, _]) V Wm V V V ⟨V, V⟩) ?_
    refine Yb 35 (none) (i := 4) V V V V V (Ye (xs := [.tmp 34]) el_28 V V V V V V (Uf V) ⟨V, V⟩) ?_
    refine EOps.wh (i := 2) V V V V (op_callo (xs := [.tmp 32]) V V (HKr) by1 ?_); intro u33
    refine Xn 0 (i := 5) V V V V V (Xj (i := 0) el_28 V V V V (.seq _ _) by6 (fun u36 => ⟨_, V, ?_⟩))
    refine EOps.wh (i := 6) V V V V (op_yield (xs := [.tmp 36])  [.own _ _ _, .objp _ _, .objp _ _, .loc b5 _] V V V V hy3 (Ub (Le.own _ _ _) (Ua _)) (fun v37 M37 h37 => ?_))
    obtain ⟨c37, rfl, hT, hF⟩ := yres h37
    refine EOps.cm 38 (i := 7) V V V V (fun _ q => Xr V V q) ?_; intro c38 h38
    try replace h38 := nott h38 h37
    show AGo _ _ _ _ _ _ _
    refine Zb ?_
    rcases Zi h38 with ⟨rfl, g38⟩ | ⟨rfl, g38⟩
    ·refine Zr V (Zv (Yt (go_end (⟨_, ?_, _, V, _, V, hT (by simpa using g38)⟩))))
     exact by3
    refine Zt V (Ya (⟨_, ?_, _, V, V, _, _, V, hle3, hF (by simpa using g38)⟩))
    exact by3
   ·rintro M9 hJ
    refine Yt (Yt ?_)
    obtain ⟨M2, rfl, hJ2⟩ := hJ
    rw [List.length_map] at hJ2
    refine go_end ?_
    refine ⟨_, ?_, _, V, _, V, by rw [Nat.succ_mul]; exact hJ2⟩
    exact by3
   rintro c9 M9 hJ
   obtain ⟨rfl, M2, kk, rfl, hkk, hJx⟩ := hJ
   refine Ya (⟨_, ?_, _, V, V, _, kk, V, hkk, hJx⟩)
   exact by3
  ·rintro M9 hJ
   refine Yt ?_
   obtain ⟨M1, rfl, hJ1⟩ := hJ
   rw [List.length_map] at hJ1
   refine go_end ?_
   exact out_none V (Vw _ (Vt _)) (.inl hJ1)
  rintro c9 M9 hJ
  obtain ⟨rfl, M1, kk, rfl, hkk, hJx⟩ := hJ
  refine Ya ?_
  exact out_none' V (Vw _ (Vt _)) (.inr ⟨kk, hkk, hJx⟩)
 omega
theorem proofsIt_none (v : En) (gs : List Pr) (p : Pr) (dv : Int) (hd : dv < 1) : Iter Tryz.prog 76 [] [.cptr [.val (.int .i64 dv)], .cptr [fAV v gs], .cptr p.cells] (([] : List Pf).map pfA) := by
 intro lp J Jx hy M0 h0
 obtain ⟨pc, ⟨pk, ps, pn, pl⟩⟩ := p
 simp only [Pr.cells, Ty.cells]
 generalize fAV v gs = fv
 refine Zw Tryz.func76 V (by kernel_rfl) V (Uf V) ?_
 refine Yf (Zg (Zc (Za 4 V V V (Ys (cs' := [_]) V V V V (Vs (Zb (Zg (Zg (Zc (Za 15 V V V (Zo V Xa V V (Za 16 V V V (Yu V V V ?_))))))))))))); intro c16 h16
 refine Vs (Zb ?_)
 rcases Zi h16 with ⟨rfl, g16⟩ | ⟨rfl, g16⟩
 ·omega
 refine Zt V (Ya ?_)
 exact out_none' V (Vt _) (.inl h0)
theorem proofsIt_some (v : En) (hv : EnG v) (gs : List Pr) (hgb : gs.length ≤ 100000) (p : Pr) (dv : Int) (hd : 1 ≤ dv) (hd2 : dv ≤ 1000000) (hp : p.t.size ≤ 1000000) (W : Pr → List Pf)
    (HR : Iter Tryz.prog 99 [] [.cptr [.seq 5 (Pr.cellss (needsR v (instI v p.c p.t.name) p.t))], .cptr [fAV v gs], .cptr [.val (.int .i64 (dv - 1))]] ((rowsF W (needsR v (instI v p.c p.t.name) p.t)).map rowA))
    (HW : ∀ c ∈ v.cl, Iter Tryz.prog 76 [] [.cptr [.val (.int .i64 (dv - 1))], .cptr [fAV v gs], .cptr (Pr.mk c.s p.t).cells] ((W (.mk c.s p.t)).map pfA)) :
    Iter Tryz.prog 76 [] [.cptr [.val (.int .i64 dv)], .cptr [fAV v gs], .cptr p.cells] ((givsF p gs 0 ++ (insF v W p ++ clsF W p v.cl)).map pfA) := by
 intro lp J Jx hy M0 h0
 rw [List.length_map]
 obtain ⟨T, hT⟩ : ∃ T, givsF p gs 0 ++ (insF v W p ++ clsF W p v.cl) = T := ⟨_, rfl⟩
 rw [hT] at hy ⊢
 have hT0 : T.drop 0 = givsF p gs 0 ++ (insF v W p ++ clsF W p v.cl) := by rw [← hT]; rfl
 clear hT
 have hy : ∀ k x M, T[k]? = some x → J k M → YCall Tryz.prog lp [.agg x.cells] M (fun v M' => (v = .val (.bool true) ∧ J (k + 1) M') ∨ (v = .val (.bool false) ∧ Jx (k + 1) M')) := fun k x M hx hJ => hy k (pfA x) M (by rw [List.getElem?_map, hx]; rfl) hJ
 have HF := fits_c v p
 have HN := Needs_c v hv (instI v p.c p.t.name) p.t hp
 have HRc := rows_c v gs (Pr.cellss (needsR v (instI v p.c p.t.name) p.t)) (dv - 1)
 have HPc := fun c : Cl => proofs_c v gs (.mk c.s p.t) (dv - 1)
 have HS := fun g => same_c g p
 have hii : fitsR v p = true → 0 ≤ instI v p.c p.t.name := fun q => by unfold fitsR at q; exact (of_decide_eq_true q).1
 unfold insF at hT0
 generalize needsR v (instI v p.c p.t.name) p.t = l at *
 generalize rowsF W l = R at *
 generalize fitsR v p = c46 at *
 generalize instI v p.c p.t.name = ii at *
 have hclb := hv.b.cl
 have hsub : ∀ c ∈ v.cl, c.su.length ≤ 100000 := fun c hc => (hv.b.cls c hc).1
 clear hv hp
 obtain ⟨pc, ⟨pk, ps, pn, pl⟩⟩ := p
 obtain ⟨da, cl, ins⟩ := v
 have hgl := Pr.cellss_len gs
 have hcl := Cl.cellss_len cl
 simp only [fAV, En.cells, Pr.cells, Ty.cells, Pr.t, En.cl, List.cons_append, List.nil_append] at *
 refine Zw Tryz.func76 V (by kernel_rfl) V (Uf V) ?_
 refine Yf (Zg (Zc (Za 4 V V V (Ys (cs' := [_]) V V V V (Vs (Zb (Zg (Zg (Zc (Za 15 V V V (Zo V Xa V V (Za 16 V V V (Yu V V V ?_))))))))))))); intro c16 h16
 refine Vs (Zb ?_)
 rcases Zi h16 with ⟨rfl, g16⟩ | ⟨rfl, g16⟩
 ·refine Zr V (Zv (Zb (Zg (Zg (Zc (Za 17 V V V (Zo V ta_83 V V (Za 18 V V V (op_nilCheck_c V V (Za 19 V V V (Zj V tf_85_1 V V (Za 20 V V V (Zo V ta_22 V V ?_)))))))))))))
  refine Za 21 V V V (Yy V tu_22 V (.seq _ _) (fun n21 => ?_))
  refine Za 22 V V V (Zd V V (Vs (Zb (Zz ?_))))
  apply Wg [0, 5, 6, 10, 15, 16, 17, 18, 19, 22, 23, 24, 25, 26, 27, 28, 29, 30, 31, 32, 33, 34, 35, 36, 37] (σ := Nat × Nat × Mem) (fun zz => match zz with | (i, k, M) => [(22, .val (.int .i64 i))]) (fun zz => match zz with | (i, k, M) => M) (fun zz => match zz with | (i, k, M) => i ≤ gs.length ∧ J k M ∧ k ≤ T.length ∧ T.drop k = givsF (.mk pc ⟨pk, ps, pn, pl⟩) (gs.drop i) i ++ ((if c46 = true then R.map (fun r => Pf.mk 3 ii kE r) else []) ++ clsF W (.mk pc ⟨pk, ps, pn, pl⟩) cl)) (fun zz => match zz with | (i, k, M) => gs.length - i) ((0, 0, M0))
  ·repeat' (first | exact Ui | apply Ug rfl | apply Uh rfl)
  ·exact ⟨Nat.zero_le _, h0, Nat.zero_le _, hT0⟩
  ·exact by4
  ·exact by3
  rintro ⟨i, k, M⟩ hI
  try dsimp only [List.cons_append, List.nil_append] at hI ⊢
  obtain ⟨hi, hJ, hk, hD⟩ := hI
  refine Zg (Zc (Za 23 V V V (Yu V V V ?_))); intro c23 h23
  refine Vs (Zb (Zg ?_))
  rcases Zi h23 with ⟨rfl, g23⟩ | ⟨rfl, g23⟩
  ·refine Zr V (Xc (Xe (Xv (Xd (Zb (Zg (Zg ?_)))))))
   rw [show gs.drop i = [] from Ul (by omega), givsF, List.nil_append] at hD
   refine Xu [0, 1, 2, 3, 4, 5, 6, 7, 8, 9, 10, 11] [9, 10] [[], [0], [0, 1], [0, 1, 2], [], [0, 1, 2, 3, 4], [0, 1, 2, 3, 4, 5], [0, 1, 2, 3, 4, 5, 6], [0, 1, 2, 3, 4, 5, 6], [], [0, 1, 2, 3, 4, 5, 6, 7, 9], [0, 1, 2, 3, 4, 5, 6, 7, 8, 9, 10]] Wo V (Yb 39 (none) (i := 0) V V V V V (Zo V ta_83 V V ⟨V, V⟩) ?_)
   refine Yb 40 (none) (i := 1) V V V V V (op_nilCheck_c V V ⟨V, V⟩) ?_
   refine Yb 41 (none) (i := 2) V V V V V (Zj V tf_85_0 V V ⟨V, V⟩) ?_
   refine Yb 42 (none) (i := 3) V V V V V (Yc (cs' := [_, _, _]) V Xw V V V ⟨V, V⟩) ?_
   refine Yb 43 (none) (i := 4) V V V V V (Yc (cs' := [_, _, _, _, _]) V ta_27 V V V ⟨V, V⟩) ?_
   refine Yb 44 (none) (i := 5) V V V V V (Ym (xs := [.tmp 42, .tmp 43]) V V (HF) by1 ⟨V, V⟩) ?_
   refine Yb 38 (none) (i := 6) V V V V V (Zd V V ⟨V, V⟩) ?_
   refine Yb 45 (none) (i := 7) V V V V V (Yv V V V ⟨V, V⟩) ?_
   refine Yb 46 (none) (i := 8) V V V V V (Yv V V V ⟨V, V⟩) ?_
   refine EOps.wh (i := 9) V V V V (Zy (cs' := [_]) V tz_3 V V ?_); intro b7
   refine Xn 0 (i := 10) V V V V V (Zq (cs' := [_]) (i := 0) V Wh V V V V V (Uf V) V ⟨_, V, ?_⟩)
   refine Yb 8 (none) (i := 11) V V V V V (Ze V V ⟨V, V⟩) ?_
   show AGo _ _ _ _ _ _ _
   refine Zb (Zg (Zc (Za 47 V V V (Zd V V (Vs (Zb ?_))))))
   apply c_joink [0, 5, 6, 7, 8, 9, 10, 15, 16, 17, 18, 19, 20, 21, 22, 23, 24, 25, 26, 27, 28, 29, 30, 31, 32, 33, 34, 35, 36, 37, 38, 39, 40, 41, 42, 43, 44, 45, 46, 47, 48, 49, 50, 51, 52, 53, 54, 55, 56, 57, 58, 59, 60, 61, 62, 63, 64, 65, 66] (σ := Nat × Mem) (fun zz => match zz with | (k, M) => []) (fun zz => match zz with | (k, M) => M) (fun zz => match zz with | (k, M) => J k M ∧ k ≤ T.length ∧ T.drop k = clsF W (.mk pc ⟨pk, ps, pn, pl⟩) cl)
   ·repeat' (first | exact Ui | apply Ug rfl | apply Uh rfl)
   ·skip
    rcases c46 with _ | _
    ·refine Zr V (Zv (Yz ?_))
     first
     | exact ⟨(k, M), ⟨hJ, hk, by simpa using hD⟩, by4, (Vw _ (Vt _))⟩
     | exact ⟨(k + R.length, M2), ⟨hJ2, hD3, hD2⟩, by4, (Vw _ (Vt _))⟩
    refine Zt V (Zg ?_)
    rw [if_pos rfl] at hD
    rw [show max ii 0 = ii by have := hii rfl; omega]
    obtain ⟨hD1, hD2, hD3⟩ := drop_app hD hk
    rw [List.length_map] at hD2 hD3
    refine Vl Wo V (Zm 48 V V (Zo V ta_83 V V ⟨V, V⟩) ?_)
    refine Zm 49 V V (Zo V ta_83 V V ⟨V, V⟩) ?_
    refine Zm 50 V V (op_nilCheck_c V V ⟨V, V⟩) ?_
    refine Zm 51 V V (Zj V tf_85_0 V V ⟨V, V⟩) ?_
    refine Zm 52 V V (Yc (cs' := [_, _, _]) V Xw V V V ⟨V, V⟩) ?_
    refine Zm 53 V V (Zp (i := 0) V Xa V V V ⟨V, V⟩) ?_
    refine Zm 54 V V (Zj V Wk V V ⟨V, V⟩) ?_
    refine Zm 55 V V (Yc (cs' := [_, _, _, _]) V Xz V V V ⟨V, V⟩) ?_
    refine Zm 56 V V (Ym (xs := [.tmp 52, .tmp 53, .tmp 55]) V V (HN) by1 ⟨V, V⟩) ?_
    refine Zm 57 V V (Zo V Xa V V ⟨V, V⟩) ?_
    refine Zm 58 V V (op_sub V V V (Uj _ (by omega)) ⟨V, V⟩) ?_
    refine Zm 59 V V (Ym (xs := [.tmp 48, .tmp 56, .tmp 58]) V V (HRc) by1 ⟨V, V⟩) ?_
    show AGo _ _ _ _ _ _ _
    refine Zb (Zz ?_)
    refine c_rangeU (xs := R.map rowA) (ps := [60]) V (HR) (fun j M1 => ∃ M2, M1 = .loc b7 [.val (.int .i64 ii)] :: M2 ∧ J (k + j) M2) (fun c M1 => c = .ret ∧ ∃ M2 kk, M1 = .loc b7 [.val (.int .i64 ii)] :: M2 ∧ kk ≤ T.length ∧ Jx kk M2) (⟨_, V, hJ⟩) (by simp [rowA]) V ?_ ?_ ?_
    ·rintro l10 k10 x10 M0 hx hJ
     obtain ⟨M2, rfl, hJ2⟩ := hJ
     simp only [List.getElem?_map, Option.map_eq_some_iff] at hx
     obtain ⟨r, hxr, rfl⟩ := hx
     have hkr := Vf hxr
     have hy2 := hy _ _ _ (hD1 k10 _ (by rw [List.getElem?_map, hxr]; rfl)) hJ2
     simp only [Pf.cells] at hy2
     refine c_asg (Zc (Za 9 V V V (Ze V V (Vs (Yz ?_)))))
     intro p10 hp10
     show ACode _ _ _ _ _ _ _
     refine Yf (Zz (Zg (Zc (Za 61 V V V (Zo V ta_132 V V (Za 62 V V V (Zp (i := 1) V Xa V V V (Za 63 V V V (Zd V V (Za 64 V V V (Yl (ns := [0, 1, 3]) (xs := [.const (.int .i64 3), .tmp 62, .tmp 63]) V tz_30 V tfl_30 V V V V ?_)))))))))))
     refine Za 65 V V V (op_yield (xs := [.tmp 64])  [.objp _ _, .loc b7 _] V V V V hy2 (Ua _) (fun v65 M65 h65 => ?_))
     obtain ⟨c65, rfl, hT, hF⟩ := yres h65
     refine Za 66 V V V (Xr V V ?_); intro c66 h66
     try replace h66 := nott h66 h65
     refine Vs (Zb ?_)
     rcases Zi h66 with ⟨rfl, g66⟩ | ⟨rfl, g66⟩
     ·refine Zr V (Zv (Yt (go_end (⟨_, ?_, _, V, _, V, hT (by simpa using g66)⟩))))
      exact by3
     refine Zt V (Ya (⟨_, ?_, _, V, V, _, _, V, by omega, hF (by simpa using g66)⟩))
     exact by3
    ·rintro M9 hJ
     refine Yt ?_
     obtain ⟨M2, rfl, hJ2⟩ := hJ
     rw [List.length_map] at hJ2
     refine Yz ?_
     first
     | exact ⟨(k, M), ⟨hJ, hk, by simpa using hD⟩, by4, (Vw _ (Vt _))⟩
     | exact ⟨(k + R.length, M2), ⟨hJ2, hD3, hD2⟩, by4, (Vw _ (Vt _))⟩
    rintro c9 M9 hJ
    obtain ⟨rfl, M2, kk, rfl, hkk, hJx⟩ := hJ
    refine c_retj ?_
    exact out_none' V (Vw _ (Vt _)) (.inr ⟨kk, hkk, hJx⟩)
   rintro ⟨k, M⟩ hI
   try dsimp only [List.cons_append, List.nil_append] at hI ⊢
   obtain ⟨hJ, hk, hD⟩ := hI
   refine Zb (Zg (Zc (Za 67 V V V (Zo V ta_83 V V (Za 68 V V V (op_nilCheck_c V V (Za 69 V V V (Zj V tf_85_0 V V (Za 70 V V V (Zj V Wi V V (Za 71 V V V (Zo V Vm V V ?_))))))))))))
   refine Za 72 V V V (Yy V tu_35 V (.seq _ _) (fun n72 => ?_))
   refine Za 73 V V V (Zd V V (Vs (Zb (Zz ?_))))
   apply Wg [0, 5, 6, 7, 8, 9, 10, 11, 12, 13, 14, 15, 16, 17, 18, 19, 20, 21, 22, 23, 24, 25, 26, 27, 28, 29, 30, 31, 32, 33, 34, 35, 36, 37, 38, 39, 40, 41, 42, 43, 44, 45, 46, 47, 48, 49, 50, 51, 52, 53, 54, 55, 56, 57, 58, 59, 60, 61, 62, 63, 64, 65, 66, 67, 68, 69, 70, 73, 74, 75, 76, 77, 78, 79, 80, 81, 82, 83, 84, 85, 86, 87, 88, 89, 90, 91, 92, 93, 94, 95, 96, 97, 99, 100, 101, 102, 103, 104, 105, 106, 107, 108, 109] (σ := Nat × Nat × Mem) (fun zz => match zz with | (i, k, M) => [(73, .val (.int .i64 i))]) (fun zz => match zz with | (i, k, M) => M) (fun zz => match zz with | (i, k, M) => i ≤ cl.length ∧ J k M ∧ k ≤ T.length ∧ T.drop k = clsF W (.mk pc ⟨pk, ps, pn, pl⟩) (cl.drop i)) (fun zz => match zz with | (i, k, M) => cl.length - i) ((0, k, M))
   ·repeat' (first | exact Ui | apply Ug rfl | apply Uh rfl)
   ·exact ⟨Nat.zero_le _, hJ, hk, hD⟩
   ·exact by4
   ·exact by3
   rintro ⟨i, k, M⟩ hI
   try dsimp only [List.cons_append, List.nil_append] at hI ⊢
   obtain ⟨hi, hJ, hk, hD⟩ := hI
   refine Zg (Zc (Za 74 V V V (Yu V V V ?_))); intro c74 h74
   refine Vs (Zb (Zg ?_))
   rcases Zi h74 with ⟨rfl, g74⟩ | ⟨rfl, g74⟩
   ·refine Zr V (Xc (Xe (Xv (Xd (go_end (out_none V (Vt _) (.inl ?_)))))))
    rw [show cl.drop i = [] from Ul (by omega), clsF] at hD
    rw [← drop_end hD hk]
    exact hJ
   refine Zt V (Zv (Zb (Zg (Zz (Zg ?_)))))
   obtain ⟨⟨ys, yv, ysu, yms, yds, yp⟩, hxy⟩ := Yw (l := cl) (i := i) by7
   have hcy := Cl.cellss_get hxy
   have hmy := Uk hxy
   rw [Xp hxy, clsF] at hD
   have HPy := HPc (Cl.mk ys yv ysu yms yds yp)
   have HWy := HW _ hmy
   have hsl := hsub _ hmy
   have hls := Xt ysu
   simp only [Cl.s, Cl.su] at HPy HWy hsl hD
   refine Zc (Za 75 V V V (Yd V te_35 V (.seq _ _) V V (hcy) (Za 76 V V V (Yc (cs' := [_, _, _, _, _, _]) V ta_77 V V V (Za 11 V V V (Zy (cs' := [_, _, _, _, _, _]) V tz_77 V V ?_)))))); intro b11
   refine Zs V V (Zq (cs' := [_, _, _, _, _, _]) (i := 0) V ts_77 V V V V V (Uf V) V (Vs (Zb (Zg (Zc (Za 77 V V V (Zh V tf_77_2 V (Za 78 V V V (Zp (i := 0) V ta_68 V V V ?_)))))))))
   refine Za 79 V V V (Yy V tu_68 V (.seq _ _) (fun n79 => ?_))
   refine Za 80 V V V (Zd V V (Vs (Zb (Zz ?_))))
   apply Wg [0, 5, 6, 7, 8, 9, 10, 12, 13, 14, 15, 16, 17, 18, 19, 20, 21, 22, 23, 24, 25, 26, 27, 28, 29, 30, 31, 32, 33, 34, 35, 36, 37, 38, 39, 40, 41, 42, 43, 44, 45, 46, 47, 48, 49, 50, 51, 52, 53, 54, 55, 56, 57, 58, 59, 60, 61, 62, 63, 64, 65, 66, 67, 68, 69, 70, 80, 81, 82, 83, 84, 85, 86, 87, 88, 89, 90, 91, 92, 93, 94, 95, 96, 97, 99, 100, 101, 102, 103, 104, 105, 106, 107, 108] (σ := Nat × Nat × Mem) (fun zz => match zz with | (n, k2, Mb) => [(80, .val (.int .i64 n))]) (fun zz => match zz with | (n, k2, Mb) => .loc b11 [.val (.string ys), .val (.string yv), .seq 1 (strs ysu), .seq 6 (Me.cellss yms), .seq 13 (Bi.cellss yds), .val (.int .i64 yp)] :: Mb) (fun zz => match zz with | (n, k2, Mb) => n ≤ ysu.length ∧ J k2 Mb ∧ k2 ≤ T.length ∧ T.drop k2 = supsF W ys ⟨pk, ps, pn, pl⟩ pc (ysu.drop n) n ++ clsF W (.mk pc ⟨pk, ps, pn, pl⟩) (cl.drop (i + 1))) (fun zz => match zz with | (n, k2, Mb) => ysu.length - n) ((0, k, M))
   ·repeat' (first | exact Ui | apply Ug rfl | apply Uh rfl)
   ·exact ⟨Nat.zero_le _, hJ, hk, hD⟩
   ·exact by4
   ·exact by3
   rintro ⟨n, k2, Mb⟩ hI
   try dsimp only [List.cons_append, List.nil_append] at hI ⊢
   obtain ⟨hn, hJ2, hk2, hD2⟩ := hI
   refine Zg (Zc (Za 81 V V V (Yu V V V ?_))); intro c81 h81
   refine Vs (Zb (Zg ?_))
   rcases Zi h81 with ⟨rfl, g81⟩ | ⟨rfl, g81⟩
   ·refine Zr V (Xc (Xe (Xv (Xd (Yt (Zb ?_))))))
    rw [show ysu.drop n = [] from Ul (by omega), supsF, List.nil_append] at hD2
    refine Zc (Za 109 V V V (Yx V V V (Uj _ (by omega)) ?_))
    refine Za 73 V V V (Zd V V (Vs (Yz ?_)))
    exact ⟨(i + 1, k2, Mb), ⟨by show i + 1 ≤ cl.length; omega, hJ2, hk2, hD2⟩, by show cl.length - (i + 1) < cl.length - i; omega, by4, (Vw _ (Vt _))⟩
   refine Zt V (Zv (Zb (Zg (Zz (Zg ?_)))))
   obtain ⟨s, hxs⟩ := Yw (l := ysu) (i := n) by7
   have hcs := strs_get hxs
   have hms := Uk hxs
   rw [Xp hxs, supsF] at hD2
   have HZ : ¬ s = pc → _ := fun e => by
    rw [if_neg e, List.nil_append] at hD2
    exact hD2
   refine Zc (Za 82 V V V (Zd V V (Za 83 V V V (Yd V te_68 V (.seq _ _) V V (hcs) (Za 84 V V V (Zo V Xb V V (Za 12 V V V (Zy (cs' := [_]) V tz_3 V V ?_)))))))); intro b12
   refine Zs V V (Zq (cs' := [_]) (i := 0) V Wh V V V V V (Uf V) V (Za 13 V V V (Ze V V (Vs (Zb (Zg (Zg (Zc (Za 85 V V V (Zd V V (Za 86 V V V (Zj V Vb V V (Za 87 V V V (Zo V Xb V V (Za 88 V V V (op_sneq V V V ?_)))))))))))))))); intro c88 h88
   refine Vs (Zb ?_)
   rcases Zi h88 with ⟨rfl, g88⟩ | ⟨rfl, g88⟩
   ·refine Zr V (Zv (Zb (Zg ?_)))
    have he : s = pc := by simpa using g88
    rw [if_pos he, List.append_assoc] at hD2
    obtain ⟨hE1, hE2, hE3⟩ := drop_app hD2 hk2
    rw [List.length_map] at hE2 hE3
    refine Zc (Za 89 V V V (Zo V ta_83 V V (Za 90 V V V (Zh V tf_77_0 V (Za 91 V V V (Zp (i := 1) V Xb V V V (Za 92 V V V (Zj V Wk V V (Za 93 V V V (Yc (cs' := [_, _, _, _]) V Xz V V V (Za 94 V V V (Yl (ns := [0, 1]) (xs := [.tmp 91, .tmp 93]) V tz_27 V tfl_27 V V V V (Za 95 V V V (Zo V Xa V V (Za 96 V V V (op_sub V V V (Uj _ (by omega)) ?_))))))))))))))))
    refine Za 97 V V V (Ym (xs := [.tmp 89, .tmp 94, .tmp 96]) V V (HPy) by1 ?_)
    refine Vs (Zb (Zz ?_))
    refine c_rangeU (xs := (W (.mk ys ⟨pk, ps, pn, pl⟩)).map pfA) (ps := [98]) V (HWy) (fun j M1 => ∃ M3, M1 = .loc b12 [.val (.int .i64 n)] :: .loc b11 [.val (.string ys), .val (.string yv), .seq 1 (strs ysu), .seq 6 (Me.cellss yms), .seq 13 (Bi.cellss yds), .val (.int .i64 yp)] :: M3 ∧ J (k2 + j) M3) (fun c M1 => c = .ret ∧ ∃ M3 kk, M1 = .loc b12 [.val (.int .i64 n)] :: .loc b11 [.val (.string ys), .val (.string yv), .seq 1 (strs ysu), .seq 6 (Me.cellss yms), .seq 13 (Bi.cellss yds), .val (.int .i64 yp)] :: M3 ∧ kk ≤ T.length ∧ Jx kk M3) (⟨_, V, hJ2⟩) (by simp [pfA]) V ?_ ?_ ?_
    ·rintro l20 k20 x20 M0 hx hJ
     obtain ⟨M3, rfl, hJ3⟩ := hJ
     simp only [List.getElem?_map, Option.map_eq_some_iff] at hx
     obtain ⟨⟨xk, xn, xc, xl⟩, hxw, rfl⟩ := hx
     have hkw := Vf hxw
     have hy2 := hy _ _ _ (hE1 k20 _ (by rw [List.getElem?_map, hxw]; rfl)) hJ3
     simp only [Pf.cells, Pf.cellss] at hy2
     refine c_asg (Zc (Za 14 V V V (Zy (cs' := [_, _, _, _]) V tz_30 V V ?_))); intro b14
     refine Zs V V (Zq (cs' := [_, _, _, _]) (i := 0) V ts_30 V V V V V (Uf V) V (Vs (Yz ?_)))
     intro p20 hp20
     show ACode _ _ _ _ _ _ _
     refine Yf (Zz (Zg (Zc (Za 99 V V V (Zo V ta_132 V V (Za 100 V V V (Zp (i := 2) V Xa V V V (Za 101 V V V (Zh V tf_77_0 V (Za 102 V V V (Zp (i := 3) V Xb V V V (Za 103 V V V (Zx (cs' := [_, _, _, _]) (i := 1) V Wm V V V V (Za 104 V V V (Ye (xs := [.tmp 103]) el_28 V V V V V V (Uf V) (Za 105 V V V (Yl (ns := [0, 1, 2, 3]) (xs := [.const (.int .i64 2), .tmp 100, .tmp 102, .tmp 104]) V tz_30 V tfl_30 V V V V ?_)))))))))))))))))
     refine Za 106 V V V (op_yield (xs := [.tmp 105])  [.objp _ _, .loc b14 _, .loc b12 _, .loc b11 _] V V V V hy2 (Ua _) (fun v106 M106 h106 => ?_))
     obtain ⟨c106, rfl, hT, hF⟩ := yres h106
     refine Za 107 V V V (Xr V V ?_); intro c107 h107
     try replace h107 := nott h107 h106
     refine Vs (Zb ?_)
     rcases Zi h107 with ⟨rfl, g107⟩ | ⟨rfl, g107⟩
     ·refine Zr V (Zv (Yt (go_end (⟨_, ?_, _, V, _, V, hT (by simpa using g107)⟩))))
      exact by3
     refine Zt V (Ya (⟨_, ?_, _, V, V, _, _, V, by omega, hF (by simpa using g107)⟩))
     exact by3
    ·rintro M9 hJ
     refine Yt (Yt ?_)
     obtain ⟨M3, rfl, hJ3⟩ := hJ
     rw [List.length_map] at hJ3
     refine Zb (Zc (Za 108 V V V (Yx V V V (Uj _ (by omega)) ?_)))
     refine Za 80 V V V (Zd V V (Vs (Yz ?_)))
     first
     | exact ⟨(n + 1, k2 + (W (.mk ys ⟨pk, ps, pn, pl⟩)).length, M3), ⟨by show n + 1 ≤ ysu.length; omega, hJ3, hE3, hE2⟩, by show ysu.length - (n + 1) < ysu.length - n; omega, by4, (Vw _ (Vt _))⟩
     | exact ⟨(n + 1, k2, Mb), ⟨by show n + 1 ≤ ysu.length; omega, hJ2, hk2, HZ (by simpa using g88)⟩, by show ysu.length - (n + 1) < ysu.length - n; omega, by4, (Vw _ (Vt _))⟩
    rintro c9 M9 hJ
    obtain ⟨rfl, M3, kk, rfl, hkk, hJx⟩ := hJ
    refine Ya ?_
    exact out_none' V (Vw _ (Vw _ (Vt _))) (.inr ⟨kk, hkk, hJx⟩)
   refine Zt V (Xc (Xe (Xd (Zb (Zc (Za 108 V V V (Yx V V V (Uj _ (by omega)) ?_)))))))
   refine Za 80 V V V (Zd V V (Vs (Yz ?_)))
   first
   | exact ⟨(n + 1, k2 + (W (.mk ys ⟨pk, ps, pn, pl⟩)).length, M3), ⟨by show n + 1 ≤ ysu.length; omega, hJ3, hE3, hE2⟩, by show ysu.length - (n + 1) < ysu.length - n; omega, by4, (Vw _ (Vt _))⟩
   | exact ⟨(n + 1, k2, Mb), ⟨by show n + 1 ≤ ysu.length; omega, hJ2, hk2, HZ (by simpa using g88)⟩, by show ysu.length - (n + 1) < ysu.length - n; omega, by4, (Vw _ (Vt _))⟩
  refine Zt V (Zv (Zb (Zg (Zz (Zg ?_)))))
  obtain ⟨⟨gc, ⟨gtk, gts, gtn, gtl⟩⟩, hxg⟩ := Yw (l := gs) (i := i) by7
  have hcg := Pr.cellss_get hxg
  have hmg := Uk hxg
  rw [Xp hxg, givsF] at hD
  have HSg := HS (Pr.mk gc ⟨gtk, gts, gtn, gtl⟩)
  simp only [Ty.cells] at HSg
  have HY : Pr.mk gc ⟨gtk, gts, gtn, gtl⟩ = Pr.mk pc ⟨pk, ps, pn, pl⟩ → YCall Tryz.prog lp [.agg (Pf.mk 1 i kE []).cells] M (fun v M' => (v = .val (.bool true) ∧ J (k + 1) M') ∨ (v = .val (.bool false) ∧ Jx (k + 1) M')) ∧ T.drop (k + 1) = givsF (.mk pc ⟨pk, ps, pn, pl⟩) (gs.drop (i + 1)) (i + 1) ++ ((if c46 = true then R.map (fun r => Pf.mk 3 ii kE r) else []) ++ clsF W (.mk pc ⟨pk, ps, pn, pl⟩) cl) ∧ k + 1 ≤ T.length := fun e => by
   rw [if_pos e] at hD
   obtain ⟨q1, q2, q3⟩ := drop_cons hD
   exact ⟨hy k _ M q1 hJ, q2, q3⟩
  have HZ : ¬ Pr.mk gc ⟨gtk, gts, gtn, gtl⟩ = Pr.mk pc ⟨pk, ps, pn, pl⟩ → _ := fun e => by
   rw [if_neg e, List.nil_append] at hD
   exact hD
  simp only [Pf.cells, Pf.cellss] at HY
  refine Zc (Za 24 V V V (Zd V V (Za 25 V V V (Yd V te_22 V (.seq _ _) V V (hcg) (Za 26 V V V (Yc (cs' := [_, _, _, _, _]) V ta_27 V V V (Za 6 V V V (Zy (cs' := [_, _, _, _, _]) V tz_27 V V ?_)))))))); intro b6
  refine Za 5 V V V (Ze V V (Zs V V (Zq (cs' := [_, _, _, _, _]) (i := 0) V ts_27 V V V V V (Uf V) V (Vs (Zb (Zg (Zc (Za 27 V V V (Zx (cs' := [_, _, _, _, _]) (i := 0) V ta_27 V V V V (Za 28 V V V (Yc (cs' := [_, _, _, _, _]) V ta_27 V V V (Za 29 V V V (Yg (xs := [.tmp 27, .tmp 28]) V V (HSg) by1 ?_))))))))))))); intro c29 h29
  refine Za 30 V V V (Zd V V ?_)
  rcases Zi h29 with ⟨rfl, g29⟩ | ⟨rfl, g29⟩
  ·skip
   refine Zk 31 V V V V V (Zk 32 V V V V V (Zk 33 V V V V V (Zk 34 V V V V V (Zk 35 V V V V V (Za 36 V V V (Zn V V V (Vs (Zb (Zr V (Zv (Yt (Zb (Zc (Za 37 V V V (Yx V V V (Uj _ (by omega)) ?_)))))))))))))))
   refine Za 22 V V V (Zd V V (Vs (Yz ?_)))
   first
   | exact ⟨(i + 1, k + 1, M34), ⟨by show i + 1 ≤ gs.length; omega, hT (by simpa using g35), (HY g29).2.2, (HY g29).2.1⟩, by show gs.length - (i + 1) < gs.length - i; omega, by4, (Vw _ (Vt _))⟩
   | exact ⟨(i + 1, k, M), ⟨by show i + 1 ≤ gs.length; omega, hJ, hk, HZ g29⟩, by show gs.length - (i + 1) < gs.length - i; omega, by4, (Vw _ (Vt _))⟩
  skip
  refine Zl 31 V V V V V (Zo V ta_132 V V (Zl 32 V V V V V (Zd V V (Zl 33 V V V V V (Yl (ns := [0, 1]) (xs := [.const (.int .i64 1), .tmp 32]) V tz_30 V tfl_30 V V V V ?_)))))
  refine Zl 34 V V V V V (op_yield (xs := [.tmp 33])  [.loc b6 _] V V V V (HY g29).1 (Ub (Le.agg (Ub (Vz _) (Ub (Vz _) (Ub (Vz _) (Ub (Le.nil 4) (Ua _)))))) (Ua _)) (fun v34 M34 h34 => ?_))
  obtain ⟨c34, rfl, hT, hF⟩ := yres h34
  refine Zl 35 V V V V V (Xr V V ?_); intro c35 h35
  try replace h35 := nott h35 h34
  refine Za 36 V V V (Zn V V V (Vs (Zb ?_)))
  rcases Zi h35 with ⟨rfl, g35⟩ | ⟨rfl, g35⟩
  ·refine Zr V (Zv (Yt (Zb (Zc (Za 37 V V V (Yx V V V (Uj _ (by omega)) ?_))))))
   refine Za 22 V V V (Zd V V (Vs (Yz ?_)))
   first
   | exact ⟨(i + 1, k + 1, M34), ⟨by show i + 1 ≤ gs.length; omega, hT (by simpa using g35), (HY g29).2.2, (HY g29).2.1⟩, by show gs.length - (i + 1) < gs.length - i; omega, by4, (Vw _ (Vt _))⟩
   | exact ⟨(i + 1, k, M), ⟨by show i + 1 ≤ gs.length; omega, hJ, hk, HZ g29⟩, by show gs.length - (i + 1) < gs.length - i; omega, by4, (Vw _ (Vt _))⟩
  refine Zt V (Ya ?_)
  exact out_none' V (Vw _ (Vt _)) (.inr ⟨_, (HY g29).2.2, hF (by simpa using g35)⟩)
 omega
theorem Pr.cellss_take (l : List Pr) (n : Nat) : (Pr.cellss l).take n = Pr.cellss (l.take n) := by simp [Pr.cellss]
theorem rowsIt (v : En) (gs : List Pr) (dv : Int) (W : Pr → List Pf) (l : List Pr) (hl : l.length ≤ 100000)
    (HW : ∀ q ∈ l, Iter Tryz.prog 76 [] [.cptr [.val (.int .i64 dv)], .cptr [fAV v gs], .cptr q.cells] ((W q).map pfA)) :
    ∀ n ≤ l.length, Iter Tryz.prog 99 [] [.cptr [.seq 5 (Pr.cellss (l.take n))], .cptr [fAV v gs], .cptr [.val (.int .i64 dv)]] ((rowsF W (l.take n)).map rowA) := by
 intro n
 induction n with
 | zero => intro _; exact rowsIt_nil _ _
 | succ n ih =>
  intro hn
  obtain ⟨q, hq⟩ : ∃ q, l[n]? = some q := ⟨_, List.getElem?_eq_getElem hn⟩
  have ht : l.take (n + 1) = l.take n ++ [q] := by rw [List.take_add_one, hq]; rfl
  have hR : ∀ r ∈ rowsF W (l.take n), r.length ≤ 100000000 := fun r hr => by
   have := rowsF_len (l.take n) [[]] 0 (by simp) r hr
   rw [List.length_take] at this
   omega
  have := rowsIt_snoc v gs dv (l.take (n + 1)) n q (by rw [List.length_take]; omega) (by rw [List.getElem?_take]; simp [hq]) (rowsF W (l.take n)) (W q) hR (by
   rw [Pr.cellss_take, List.take_take, show min n (n + 1) = n by omega]
   exact ih (by omega)) (HW q (Uk hq))
  rw [show rowsF W (l.take (n + 1)) = (rowsF W (l.take n)).flatMap fun r => (W q).map fun x => r ++ [x] by rw [ht, rowsF_snoc]]
  exact this
theorem proofsIt (v : En) (hv : EnC v) (gs : List Pr) (hgb : gs.length ≤ 100000) : ∀ (d : Nat), d ≤ 1000000 → ∀ p : Pr, p.t.size ≤ 1000000 → Iter Tryz.prog 76 [] [.cptr [.val (.int .i64 d)], .cptr [fAV v gs], .cptr p.cells] ((proofsF v gs d p).map pfA)
 | 0, _, p, _ => proofsIt_none v gs p _ (by omega)
 | d + 1, hd, p, hp => by
  have IH := proofsIt v hv gs hgb d (by omega)
  have := proofsIt_some v hv.g gs hgb p (d + 1 : Nat) (by omega) (by omega) hp (proofsF v gs d) (by
   have := rowsIt v gs d (proofsF v gs d) (needsR v (instI v p.c p.t.name) p.t) (needsR_len hv.g.b _ _) (fun q hq => IH q (by have := hv.needs_size hq; omega)) _ (Nat.le_refl _)
   rw [List.take_length] at this
   rw [show ((d + 1 : Nat) : Int) - 1 = d by omega]
   exact this) (fun c _ => by
   rw [show ((d + 1 : Nat) : Int) - 1 = d by omega]
   exact IH (.mk c.s p.t) hp)
  exact this
def AllL (p : Nat → Prop) : List Nat → Prop
 | [] => True
 | i :: is => p i ∧ AllL p is
theorem AllL.get {p : Nat → Prop} : ∀ {is : List Nat}, AllL p is → ∀ i ∈ is, p i
 | [], _, i, h => by simp at h
 | j :: is, h, i, hi => by
  rcases List.mem_cons.1 hi with rfl | hi
  ·exact h.1
  exact AllL.get h.2 i hi
def ADraw (ro : Option Nat) (P : Program) (n : Nat) (l : List Oper) (QQ : Exit → Sl → Mem → Prop) (fuel : Nat) (lis : List Bool) (al : Sl) (M : Mem) : Prop :=
 ∀ (B : Nat) (F0 : EH) (Mf : Mem) (w0 : World) (ds : List Deferred) (F : EH) (a : Act) (w : World), Ext F0 F → Inv B F (M ++ Mf) w → Slots n F al a.tmps → a.defers = ds → Below B w0 w →
  wpAnyIn (RF ro) 0 P .any l.toArray (fun e a' w' => PostD n B F0 Mf w0 ds (QQ e) a' w') fuel lis.toArray a w
section
variable {ro : Option Nat} {P : Program} {n : Nat} {l : List Oper} {QQ : Exit → Sl → Mem → Prop} {fuel : Nat} {lis : List Bool} {al : Sl} {M : Mem}
theorem ADraw.done (hr : Region.ready .any l.toArray lis.toArray = []) (h : QQ .normal al M) : ADraw ro P n l QQ fuel lis al M := by
 intro B F0 Mf w0 ds F a w hE hi hs hd hb
 have hq : PostD n B F0 Mf w0 ds (QQ .normal) a w := ⟨[], F, al, M, h, hE, hi, hs, hd, hb⟩
 cases fuel with
 | zero => exact ⟨hr, hq⟩
 | succ k => exact ⟨fun _ => hq, fun i hi => by rw [hr] at hi; simp at hi⟩
theorem ADraw.step (is : List Nat) (hr : Region.ready .any l.toArray lis.toArray = is) (hne : is.isEmpty = false)
    (h : AllL (fun i => ∃ o, l[i]? = some o ∧ o.guard = none ∧ (o.dst.all fun d => Nat.blt d n) = true ∧ OpT P o al M (fun v M' => ADraw ro P n l QQ fuel (lis.set i true) (al.put o.dst v) M')) is) : ADraw ro P n l QQ (fuel + 1) lis al M := by
 intro B F0 Mf w0 ds F a w hE hi hs hd hb
 refine ⟨fun e => ?_, fun i hmi => ?_⟩
 ·rw [hr] at e; subst e; simp at hne
 rw [hr] at hmi
 obtain ⟨o, ho, hg, hin, hop⟩ := h.get i hmi
 unfold wpOpIn
 simp only [List.getElem?_toArray, ho]
 rw [if_pos (by simp [Region.wanted, hg])]
 refine wp_exits (Oper.wpIn_mono ?_ (hop n B F Mf a w hi hs ro))
 rintro a' w' ⟨u, v, M', F', rfl, hK, hr', hE', hi', hb'⟩
 have hin' : o.dst.all (· < n) = true := by
  cases hdst : o.dst with
  | none => rfl
  | some d => rw [hdst] at hin; simpa [Nat.blt_eq] using hin
 have := hK B F0 Mf w0 ds F' (a.put o.dst u) w' (hE.trans hE') hi' (Slots.put (hs.mono hE') hin' hr') (by rw [← hd]; cases o.dst <;> rfl) (hb.trans hb')
 rwa [show (lis.set i true).toArray = lis.toArray.setIfInBounds i true by simp] at this
end
theorem c_tree {ro : Option Nat} {P : Program} {n : Nat} {l : List Oper} {QQ : Exit → Sl → Mem → Prop} {al : Sl} {M : Mem} {id : Nat} (hmix : P.follows .mixedOrders = true) (h : ADraw ro P n l QQ l.length (List.replicate l.length false) al M) : ACode ro P n (.region id l.toArray true) QQ al M := by
 intro B F Mf a w hi hs
 refine wpIn_region_any hmix ?_
 have := h B F Mf w a.defers F a _ (Ext.refl F) hi.drew hs rfl (Below.refl B w).drew
 rwa [show (List.replicate l.length false).toArray = Array.replicate l.toArray.size false by simp, show l.length = l.toArray.size by simp] at this
theorem ACode.freezer {ro : Option Nat} {n : Nat} {Q : Exit → Sl → Mem → Prop} {c : Code} {al : Sl} {M : Mem} {P : Program} {i m : Nat} {e : TypeId} {u : Value} {es : List (List AV)} (t : Nat) (hm : M[i]? = some (.row e m u es)) (ht : al.lookup t = some (.val u))
    (h : ACode ro P n c Q ((t, .seq m es) :: al) (M.eraseIdx i)) : ACode ro P n c Q al M := by
 intro B F Mf a w hi hsl
 have hi2 := hi.perm ((perm_at hm).append_right Mf)
 rw [List.cons_append] at hi2
 obtain ⟨zs, hown, hslack, hrx, hox, hwx⟩ := hi2.ok _ (List.mem_cons_self)
 have hfar := hi2.far
 rw [List.pairwise_cons] at hfar
 have hext : Ext F (F.grow u.ownBlock zs) := by
  intro b j x h
  unfold EH.grow
  split
  ·rename_i hh
   rw [hslack b j hh.1.symm] at h; simp at h
  exact h
 have hinv : Inv B (F.grow u.ownBlock zs) (M.eraseIdx i ++ Mf) w := by
  refine ⟨hi.base, fun b j x h => ?_, fun r hr' => ?_, hfar.2⟩
  ·unfold EH.grow at h
   split at h
   ·rename_i hh
    obtain ⟨hb, hj⟩ := hh
    rcases hown.2 with ⟨rfl, _⟩ | ⟨g, cap, cur, rfl, _⟩
    ·simp [Value.ownBlock] at hb
    simp [Value.ownBlock] at hb
    subst hb
    rw [hown.cellAt j (by rw [← hown.1]; exact hj)]; exact h
   exact hi.fix b j x h
  refine (hi2.ok r (List.mem_cons_of_mem _ hr')).stay hext (fun b' hb' => ⟨V, fun j => ?_⟩)
  unfold EH.grow
  rw [if_neg]
  rintro ⟨e, _⟩
  rcases hfar.1 r hr' with k | k
  ·simp [Res.blk] at k
   rw [k] at e; simp at e
  exact k (by rw [hb']; exact e.symm)
 have hu : Rel (F.grow u.ownBlock zs) (.seq m es) u := by
  rcases hown.2 with ⟨rfl, h0⟩ | ⟨g, cap, cur, rfl, _, _, hnc, hcm, _⟩
  ·have : es = [] := List.eq_nil_of_length_eq_zero h0
   subst this
   exact .seq0 m none 0 (fun _ => V)
  refine .seq (vs := zs) g 0 cap hwx (by omega) (fun j x hx => ?_) (hrx.mono hext) hox (by omega)
  have hj := Vf hx
  unfold EH.grow
  rw [if_pos ⟨by rw [Value.ownBlock], by omega⟩, Nat.zero_add]
  exact hx
 have := h B (F.grow u.ownBlock zs) Mf a w hinv ⟨hsl.1, fun t' v' e => ?_⟩
 ·exact Code.wpIn_mono (fun e a w hp => PostD.next (Ds := []) hext (Below.refl _ _) hp) this
 by_cases q : t' = t
 ·subst q
  simp only [List.lookup_cons, beq_self_eq_true, Option.some.injEq] at e
  subst e
  obtain ⟨h4, h5⟩ := hsl.2 t' _ ht
  refine ⟨h4, ?_⟩
  generalize a.tmps.getD t' undef = y at h5
  cases h5
  exact hu
 rw [List.lookup_cons, show (t' == t) = false by simpa using q] at e
 obtain ⟨h4, h5⟩ := hsl.2 t' v' e
 exact ⟨h4, h5.mono hext⟩
theorem c_frzr {ro : Option Nat} {P : Program} {n : Nat} {ks : List Kont} {Q : Exit → Sl → Mem → Prop} {c : Code} {al : Sl} {M : Mem} {i m : Nat} {e : TypeId} {u : Value} {es : List (List AV)} (t : Nat) (hm : M[i]? = some (.row e m u es)) (ht : al.lookup t = some (.val u)) (h : ACode ro P n c (after ro P n ks Q) ((t, .seq m es) :: al) (M.eraseIdx i)) : ACode ro P n c (after ro P n ks Q) al M :=
 ACode.freezer t hm ht h
section
variable {ro : Option Nat} {P : Program} {n : Nat} {l : List Oper} {QQ : Exit → Sl → Mem → Prop} {fuel fuel' : Nat} {lis lis' : List Bool} {al al' : Sl} {M M' : Mem}
theorem ADraw.le (hs : SLe al al') (hm : MLe M M') (h : ADraw ro P n l QQ fuel lis al' M') : ADraw ro P n l QQ fuel lis al M :=
 fun B F0 Mf w0 ds F a w hE hi hsl => h B F0 Mf w0 ds F a w hE (hi.le hm) (hsl.le hs)
theorem ADraw.via (new : Sl) (fuel' : Nat) (lis' : List Bool) (h : (∀ al', SLe al' (new ++ al) → ADraw ro P n l QQ fuel' lis' al' M) → ADraw ro P n l QQ fuel lis al M) (k : ADraw ro P n l QQ fuel' lis' (new ++ al) M) : ADraw ro P n l QQ fuel lis al M :=
 h fun _ hs => ADraw.le hs (Vt _) k
end
theorem c_treef {ro : Option Nat} {P : Program} {n : Nat} {l : List Oper} {QQ : Exit → Sl → Mem → Prop} {al : Sl} {M : Mem} {id : Nat} (fuel : Nat) (lis : List Bool) (hmix : P.follows .mixedOrders = true) (hf : l.length = fuel) (hl : List.replicate l.length false = lis) (h : ADraw ro P n l QQ fuel lis al M) : ACode ro P n (.region id l.toArray true) QQ al M := by
 subst hf hl
 exact c_tree hmix h
section
variable {P : Program} {o : Oper} {al : Sl} {M : Mem} {K : AV → Mem → Prop}
theorem op_append_rowh {s x : Operand} {t e : TypeId} {z u : Value} {m bytes i : Nat} {v : AV} {es es' : List (List AV)} (E : ElT P t e z m bytes) (ho : o.op = .call { callee := .builtin .append, args := #[s, x], argTypes := #[t, t] }) (hs : al.ev s = some (.val u)) (hm : M[i]? = some (.row e m u es)) (hx : al.ev x = some v) (hv : IsSeq v m es') (hn : es.length + es'.length ≤ 100000000000) (h0 : 0 < es.length + es'.length)
    (q : ∀ g cap, K (.val (rowv g (es.length + es'.length) cap)) (M.set i (.row e m (rowv g (es.length + es'.length) cap) (es ++ es')))) : OpT P o al M K := by
 intro n B F Mf a w hi hsl ro
 have hil : i < M.length := Vf hm
 have hu := Xy hsl hs
 have hi2 := hi.perm ((perm_at hm).append_right Mf)
 rw [List.cons_append] at hi2
 obtain ⟨u', w', hrun, hi', hb⟩ := row_core (ty := o.type) E hi2 (hv.rel (hsl.ev hx)) hn
 have hform : ∃ g cap, u' = rowv g (es.length + es'.length) cap := by
  obtain ⟨xs, hown, _⟩ := hi'.ok _ (List.mem_cons_self)
  rw [List.length_append] at hown
  rcases hown.2 with ⟨rfl, h0⟩ | ⟨g, cap, cur, rfl, _⟩
  ·omega
  exact ⟨g, cap, V⟩
 obtain ⟨g, cap, rfl⟩ := hform
 refine wpR_value (w' := w') ?_ ⟨_, _, _, F, V, q g cap, .val _, Ext.refl F, ?_, hb⟩
 ·simp [execOp, ho, resolve, invoke, builtin, hu, hrun]
 refine hi'.perm ?_
 rw [← List.cons_append]
 exact ((perm_set _ hil).append_right Mf).symm
end
theorem proofsItZ (v : En) (hv : EnC v) (gs : List Pr) (hgb : gs.length ≤ 100000) (p : Pr) (hp : p.t.size ≤ 1000000) (dv : Int) (hd : dv ≤ 1000000) : Iter Tryz.prog 76 [] [.cptr [.val (.int .i64 dv)], .cptr [fAV v gs], .cptr p.cells] ((proofsF v gs dv.toNat p).map pfA) := by
 by_cases h : dv < 1
 ·rw [show dv.toNat = 0 by omega]
  exact proofsIt_none v gs p dv h
 have := proofsIt v hv gs hgb dv.toNat (by omega) p hp
 rw [show ((dv.toNat : Nat) : Int) = dv by omega] at this
 exact this
noncomputable def allF (v : En) (gs : List Pr) (p : Pr) (dv mv : Int) : List Pf := (proofsF v gs dv.toNat p).take (min mv 1000).toNat
theorem set_snoc {α : Type} (E : List α) (z x : α) : (E ++ [z]).set E.length x = E ++ [x] := by
 rw [List.set_append_right _ _ (Nat.le_refl _), Nat.sub_self]
 rfl
theorem cellss_takeS {T : List Pf} {k : Nat} {x : Pf} (h : T[k]? = some x) : Pf.cellss (T.take (k + 1)) = Pf.cellss (T.take k) ++ [x.cells] := by
 rw [List.take_add_one, h]
 exact Pf.cellss_app' ..
abbrev z30 : Value := .agg #[.int .i64 0, .int .i64 0, .string { data := #[] }, .slice none 0 0]
theorem entAll_c (v : En) (hv : EnC v) (gs : List Pr) (hgb : gs.length ≤ 100000) (p : Pr) (hp : p.t.size ≤ 1000000) (dv mv : Int) (hd : dv ≤ 1000000) : PCall Tryz.prog 20 [.agg v.cells, .seq 5 (Pr.cellss gs), .agg p.cells, .val (.int .i64 dv), .val (.int .i64 mv)] (.seq 4 (Pf.cellss (allF v gs p dv mv))) := by
 have HI := proofsItZ v hv gs hgb p hp dv hd
 have HP := proofs_c v gs p dv
 unfold allF
 generalize proofsF v gs dv.toNat p = T at *
 clear hv hp
 obtain ⟨pc, ⟨pk, ps, pn, pl⟩⟩ := p
 obtain ⟨da, cl, ins⟩ := v
 simp only [fAV, En.cells, Pr.cells, Ty.cells, List.cons_append, List.nil_append] at *
 refine Zw Tryz.func20 V (by kernel_rfl) V (Uf V) ?_
 refine Yf (Zg (Zc (Za 5 V V V (Ys (cs' := [_, _, _]) V V V V (Za 7 V V V (Ys (cs' := [_, _, _, _, _]) V V V V (Za 9 V V V (op_boxe (cs' := [_]) V V V V ?_)))))))); intro b9
 refine Za 10 V V V (Ze V V (Vs (Zb (Zg (Zc (Za 11 V V V (Zy (cs' := [_]) V tz_28 V V ?_))))))); intro b11
 refine Vs (Zb (Zg (Zc (Za 14 V V V (Zp (i := 1) V Xa V V V (Za 15 V V V (op_min V V V (Zs V V (Zq (cs' := [_]) (i := 1) V Wh V V V V V (Uf V) V (Vs (Zb (Zg (Zg (Zc (Za 16 V V V (Zp (i := 1) V Xa V V V (Za 17 V V V (Yu V V V ?_)))))))))))))))))); intro c17 h17
 refine Vs (Zb ?_)
 rcases Zi h17 with ⟨rfl, g17⟩ | ⟨rfl, g17⟩
 ·refine Zr V (Zv (Zb (Zg (Zc (Za 18 V V V (Yc (cs' := [_, _, _]) V Xw V V V (Za 19 V V V (Zd V V (Za 20 V V V (Yl (ns := [0, 1]) (xs := [.tmp 18, .tmp 19]) V tz_85 V tfl_85 V V V V (Za 21 V V V (Ys (cs' := [_, _, _, _]) V V V V (Za 12 V V V (Ze V V (Vs (Zb (Zg (Zg (c_mem (MImp.rowNil 30 4 _) (Zc (Za 22 V V V (Zd V V (Za 23 V V V (Yc (cs' := [_, _, _, _, _]) V ta_27 V V V (Za 24 V V V (Zd V V ?_))))))))))))))))))))))))))
  refine Za 25 V V V (Ym (xs := [.tmp 22, .tmp 23, .tmp 24]) V V (HP) by1 ?_)
  refine Vs (Zb (Zz ?_))
  refine c_rangeU (xs := T.map pfA) (ps := [26]) V (HI) (fun k M => k < (min mv 1000).toNat ∧ ∃ u, M = [.row 30 4 u (Pf.cellss (T.take k)), .loc b11 [.val u], .loc b9 [.val (.int .i64 (min mv 1000))]]) (fun c M => c = .exit 0 ∧ ∃ u, M = [.row 30 4 u (Pf.cellss (T.take (min mv 1000).toNat)), .loc b11 [.val u], .loc b9 [.val (.int .i64 (min mv 1000))]]) (⟨by omega, _, V⟩) (by simp [pfA]) V ?_ ?_ ?_
  ·rintro l7 k7 x7 M0 hx hJ
   obtain ⟨hk, u, rfl⟩ := hJ
   simp only [List.getElem?_map, Option.map_eq_some_iff] at hx
   obtain ⟨⟨xk, xn, xc, xl⟩, hxw, rfl⟩ := hx
   have hkw := Vf hxw
   simp only [pfA, Pf.cells]
   refine c_asg (Zc (Za 13 V V V (Zy (cs' := [_, _, _, _]) V tz_30 V V ?_))); intro b13
   refine Zs V V (Zq (cs' := [_, _, _, _]) (i := 0) V ts_30 V V V V V (Uf V) V (Vs (Yz ?_)))
   intro p7 hp7
   show ACode _ _ _ _ _ _ _
   refine Yf (Zz (Zg ?_))
   obtain ⟨E, hE, hEl⟩ : ∃ E, Pf.cellss (T.take k7) = E ∧ E.length = k7 := ⟨_, rfl, by rw [Pf.cellss_len, List.length_take]; omega⟩
   rw [hE]
   subst hEl
   apply c_joink [27, 28, 29, 30, 31, 32] (σ := Nat × Nat) (fun _ => []) (fun zz => [.objp l7 p7, .loc b13 [.val (.int .i64 xk), .val (.int .i64 xn), .val (.string xc), .seq 4 (Pf.cellss xl)], .row 30 4 (rowv zz.1 (E.length + 1) zz.2) (E ++ [[.val (.int .i64 xk), .val (.int .i64 xn), .val (.string xc), .seq 4 (Pf.cellss xl)]]), .loc b11 [.val (rowv zz.1 (E.length + 1) zz.2)], .loc b9 [.val (.int .i64 (min mv 1000))]]) (fun _ => True)
   ·repeat' (first | exact Ui | apply Ug rfl | apply Uh rfl)
   ·skip
    refine c_treef 8 [false, false, false, false, false, false, false, false] Wo V V ?_
    refine ADraw.via [(30, .seq 4 [[AV.val (Value.int IntKind.i64 0), AV.val (Value.int IntKind.i64 0), AV.val (Value.string kE), AV.val (Value.slice none 0 0)]]), (29, .val (.int .i64 E.length)), (28, .agg [.val (.int .i64 xk), .val (.int .i64 xn), .val (.string xc), .seq 4 (Pf.cellss xl)]), (27, .val u)] 4 [true, true, true, true, false, false, false, false] (fun H => ?_) ?_
    ·skip
     refine ADraw.step [0, 1, 3] (by kernel_rfl) V ⟨?_, ?_, ?_, trivial⟩
     ·refine ⟨_, V, V, V, Zp (i := 3) V ta_28 V V V ?_⟩
      refine ADraw.step [1, 2, 3] (by kernel_rfl) V ⟨?_, ?_, ?_, trivial⟩
      ·refine ⟨_, V, V, V, Zx (cs' := [_, _, _, _]) (i := 1) V Wm V V V V ?_⟩
       refine ADraw.step [2, 3] (by kernel_rfl) V ⟨?_, ?_, trivial⟩
       ·refine ⟨_, V, V, V, op_len_row (i := 2) V tu_28 V V (fun _ => ?_)⟩
        refine ADraw.step [3] (by kernel_rfl) V ⟨?_, trivial⟩
        refine ⟨_, V, V, V, Ye (xs := [.const z30]) el_28 V V V V V V (Uf V) ?_⟩
        exact H _ by4
       refine ⟨_, V, V, V, Ye (xs := [.const z30]) el_28 V V V V V V (Uf V) ?_⟩
       refine ADraw.step [2] (by kernel_rfl) V ⟨?_, trivial⟩
       refine ⟨_, V, V, V, op_len_row (i := 2) V tu_28 V V (fun _ => ?_)⟩
       exact H _ by4
      ·refine ⟨_, V, V, V, op_len_row (i := 2) V tu_28 V V (fun _ => ?_)⟩
       refine ADraw.step [1, 3] (by kernel_rfl) V ⟨?_, ?_, trivial⟩
       ·refine ⟨_, V, V, V, Zx (cs' := [_, _, _, _]) (i := 1) V Wm V V V V ?_⟩
        refine ADraw.step [3] (by kernel_rfl) V ⟨?_, trivial⟩
        refine ⟨_, V, V, V, Ye (xs := [.const z30]) el_28 V V V V V V (Uf V) ?_⟩
        exact H _ by4
       refine ⟨_, V, V, V, Ye (xs := [.const z30]) el_28 V V V V V V (Uf V) ?_⟩
       refine ADraw.step [1] (by kernel_rfl) V ⟨?_, trivial⟩
       refine ⟨_, V, V, V, Zx (cs' := [_, _, _, _]) (i := 1) V Wm V V V V ?_⟩
       exact H _ by4
      refine ⟨_, V, V, V, Ye (xs := [.const z30]) el_28 V V V V V V (Uf V) ?_⟩
      refine ADraw.step [1, 2] (by kernel_rfl) V ⟨?_, ?_, trivial⟩
      ·refine ⟨_, V, V, V, Zx (cs' := [_, _, _, _]) (i := 1) V Wm V V V V ?_⟩
       refine ADraw.step [2] (by kernel_rfl) V ⟨?_, trivial⟩
       refine ⟨_, V, V, V, op_len_row (i := 2) V tu_28 V V (fun _ => ?_)⟩
       exact H _ by4
      refine ⟨_, V, V, V, op_len_row (i := 2) V tu_28 V V (fun _ => ?_)⟩
      refine ADraw.step [1] (by kernel_rfl) V ⟨?_, trivial⟩
      refine ⟨_, V, V, V, Zx (cs' := [_, _, _, _]) (i := 1) V Wm V V V V ?_⟩
      exact H _ by4
     ·refine ⟨_, V, V, V, Zx (cs' := [_, _, _, _]) (i := 1) V Wm V V V V ?_⟩
      refine ADraw.step [0, 3] (by kernel_rfl) V ⟨?_, ?_, trivial⟩
      ·refine ⟨_, V, V, V, Zp (i := 3) V ta_28 V V V ?_⟩
       refine ADraw.step [2, 3] (by kernel_rfl) V ⟨?_, ?_, trivial⟩
       ·refine ⟨_, V, V, V, op_len_row (i := 2) V tu_28 V V (fun _ => ?_)⟩
        refine ADraw.step [3] (by kernel_rfl) V ⟨?_, trivial⟩
        refine ⟨_, V, V, V, Ye (xs := [.const z30]) el_28 V V V V V V (Uf V) ?_⟩
        exact H _ by4
       refine ⟨_, V, V, V, Ye (xs := [.const z30]) el_28 V V V V V V (Uf V) ?_⟩
       refine ADraw.step [2] (by kernel_rfl) V ⟨?_, trivial⟩
       refine ⟨_, V, V, V, op_len_row (i := 2) V tu_28 V V (fun _ => ?_)⟩
       exact H _ by4
      refine ⟨_, V, V, V, Ye (xs := [.const z30]) el_28 V V V V V V (Uf V) ?_⟩
      refine ADraw.step [0] (by kernel_rfl) V ⟨?_, trivial⟩
      refine ⟨_, V, V, V, Zp (i := 3) V ta_28 V V V ?_⟩
      refine ADraw.step [2] (by kernel_rfl) V ⟨?_, trivial⟩
      refine ⟨_, V, V, V, op_len_row (i := 2) V tu_28 V V (fun _ => ?_)⟩
      exact H _ by4
     refine ⟨_, V, V, V, Ye (xs := [.const z30]) el_28 V V V V V V (Uf V) ?_⟩
     refine ADraw.step [0, 1] (by kernel_rfl) V ⟨?_, ?_, trivial⟩
     ·refine ⟨_, V, V, V, Zp (i := 3) V ta_28 V V V ?_⟩
      refine ADraw.step [1, 2] (by kernel_rfl) V ⟨?_, ?_, trivial⟩
      ·refine ⟨_, V, V, V, Zx (cs' := [_, _, _, _]) (i := 1) V Wm V V V V ?_⟩
       refine ADraw.step [2] (by kernel_rfl) V ⟨?_, trivial⟩
       refine ⟨_, V, V, V, op_len_row (i := 2) V tu_28 V V (fun _ => ?_)⟩
       exact H _ by4
      refine ⟨_, V, V, V, op_len_row (i := 2) V tu_28 V V (fun _ => ?_)⟩
      refine ADraw.step [1] (by kernel_rfl) V ⟨?_, trivial⟩
      refine ⟨_, V, V, V, Zx (cs' := [_, _, _, _]) (i := 1) V Wm V V V V ?_⟩
      exact H _ by4
     refine ⟨_, V, V, V, Zx (cs' := [_, _, _, _]) (i := 1) V Wm V V V V ?_⟩
     refine ADraw.step [0] (by kernel_rfl) V ⟨?_, trivial⟩
     refine ⟨_, V, V, V, Zp (i := 3) V ta_28 V V V ?_⟩
     refine ADraw.step [2] (by kernel_rfl) V ⟨?_, trivial⟩
     refine ⟨_, V, V, V, op_len_row (i := 2) V tu_28 V V (fun _ => ?_)⟩
     exact H _ by4
    refine ADraw.step [4] (by kernel_rfl) V ⟨?_, trivial⟩
    refine ⟨_, V, V, V, op_append_rowh (i := 2) el_28 V V V V (.seq _ _) (by simp; omega) (by simp) ?_⟩
    intro g cap
    refine ADraw.step [5, 7] (by kernel_rfl) V ⟨?_, ?_, trivial⟩
    ·refine ⟨_, V, V, V, op_index_row (i := 2) (k := E.length) V te_28 V V V V (by simp) ?_⟩
     refine ADraw.step [6, 7] (by kernel_rfl) V ⟨?_, ?_, trivial⟩
     ·refine ⟨_, V, V, V, op_store_rowp (i := 2) (k := E.length) V ts_30 V V V V V V (by simp) ?_⟩
      refine ADraw.step [7] (by kernel_rfl) V ⟨?_, trivial⟩
      refine ⟨_, V, V, V, Zq (cs' := [_]) (i := 3) V ts_28 V V V V V (Uf V) V ?_⟩
      exact ADraw.done (by kernel_rfl) ⟨(g, cap), trivial, by4, by rw [set_snoc]; exact by3⟩
     refine ⟨_, V, V, V, Zq (cs' := [_]) (i := 3) V ts_28 V V V V V (Uf V) V ?_⟩
     refine ADraw.step [6] (by kernel_rfl) V ⟨?_, trivial⟩
     refine ⟨_, V, V, V, op_store_rowp (i := 2) (k := E.length) V ts_30 V V V V V V (by simp) ?_⟩
     exact ADraw.done (by kernel_rfl) ⟨(g, cap), trivial, by4, by rw [set_snoc]; exact by3⟩
    refine ⟨_, V, V, V, Zq (cs' := [_]) (i := 3) V ts_28 V V V V V (Uf V) V ?_⟩
    refine ADraw.step [5] (by kernel_rfl) V ⟨?_, trivial⟩
    refine ⟨_, V, V, V, op_index_row (i := 2) (k := E.length) V te_28 V V V V (by simp) ?_⟩
    refine ADraw.step [6] (by kernel_rfl) V ⟨?_, trivial⟩
    refine ⟨_, V, V, V, op_store_rowp (i := 2) (k := E.length) V ts_30 V V V V V V (by simp) ?_⟩
    exact ADraw.done (by kernel_rfl) ⟨(g, cap), trivial, by4, by rw [set_snoc]; exact by3⟩
   rintro ⟨g, cap⟩ -
   dsimp only [List.cons_append, List.nil_append]
   have hl1 : E.length + 1 ≤ (min mv 1000).toNat := hk
   have hEn : E ++ [[AV.val (.int .i64 xk), .val (.int .i64 xn), .val (.string xc), .seq 4 (Pf.cellss xl)]] = Pf.cellss (T.take (E.length + 1)) := by
    rw [cellss_takeS hxw, hE, Pf.cells]
   rw [hEn]
   refine Zb (Zg (Zc (Za 33 V V V (Zp (i := 3) V ta_28 V V V (Za 34 V V V (op_len_val V tu_28 V (Za 35 V V V (Zp (i := 4) V Xa V V V (Za 36 V V V (Yr V V V ?_)))))))))); intro c36 h36
   refine Vs (Zb ?_)
   rcases Zi h36 with ⟨rfl, g36⟩ | ⟨rfl, g36⟩
   ·refine Zr V (Zv (Yt (go_end (⟨_, ?_, _, V, by omega, rowv g (E.length + 1) cap, V⟩))))
    exact by3
   refine Zt V (Xc (x_past (by simp) ?_))
   refine x_out ?_
   rw [show (min mv 1000).toNat = E.length + 1 by omega]
   refine ⟨_, ?_, _, V, V, rowv g (E.length + 1) cap, V⟩
   exact by3
  ·rintro M9 hJ
   refine Yt ?_
   obtain ⟨hk, u, rfl⟩ := hJ
   rw [List.length_map] at hk
   refine Zb (Zg (Zc (Za 37 V V V (Zp (i := 1) V ta_28 V V V (Za 10 V V V (Ze V V (Vs (Zb (c_frzr 10 (i := 0) V V (Ya ?_))))))))))
   first
   | exact Yh rfl rfl (Vz _) by3 ⟨rfl, rfl⟩
   | rw [show Pf.cellss (T.take (min mv 1000).toNat) = Pf.cellss (T.take (T.map pfA).length) by rw [List.length_map, List.take_length, List.take_of_length_le (by omega)]]; exact Yh rfl rfl (Vz _) by3 ⟨rfl, rfl⟩
  rintro c9 M9 hJ
  obtain ⟨rfl, u, rfl⟩ := hJ
  refine Xc (Xd (Zb (Zg (Zc (Za 37 V V V (Zp (i := 1) V ta_28 V V V (Za 10 V V V (Ze V V (Vs (Zb (c_frzr 10 (i := 0) V V (Ya ?_))))))))))))
  first
  | exact Yh rfl rfl (Vz _) by3 ⟨rfl, rfl⟩
  | rw [show Pf.cellss (T.take (min mv 1000).toNat) = Pf.cellss (T.take (T.map pfA).length) by rw [List.length_map, List.take_length, List.take_of_length_le (by omega)]]; exact Yh rfl rfl (Vz _) by3 ⟨rfl, rfl⟩
 refine Zt V (Zg (Zc (Za 10 V V V (Ze V V (Vs (Zb (Ya ?_)))))))
 rw [show T.take (min mv 1000).toNat = [] by rw [show (min mv 1000).toNat = 0 by omega]; rfl]
 exact Yh V V (Le.nil 4) by3 ⟨V, V⟩
theorem EqF_pf (v : En) (gs : List Pr) (g : FuncId) (cs : List AV) (xs : List Pf) (qs : List Pr) (hg : ∀ x ∈ xs, ∀ q ∈ qs, BCall Tryz.prog g ([] ++ [.agg x.cells, .agg q.cells] ++ cs) (holdsP v gs x q)) : BCall Tryz.prog 41 [.seq 4 (Pf.cellss xs), .seq 5 (Pr.cellss qs), .clo (.func g) [] cs] (holdsL v gs xs qs) := by
 have hx := Pf.cellss_len xs
 have hq := Pr.cellss_len qs
 refine Zw Tryz.func41 V (by kernel_rfl) V (Uf V) ?_
 refine Yf ?_
 refine c_lens (t := 0) V (.seq _ _) (fun hmax => ?_)
 refine Zg (Zc (Za 6 V V V (Ze V V (Vs (Zb (Zg (Zg (Zc (Za 10 V V V (Zd V V ?_))))))))))
 refine Za 11 V V V (Yy V tu_28 V (.seq _ _) (fun n11 => ?_))
 refine Za 12 V V V (Zd V V ?_)
 refine Za 13 V V V (Yy V tu_22 V (.seq _ _) (fun n13 => ?_))
 refine Za 14 V V V (Xq V V V ?_); intro c14 h14
 refine Vs (Zb ?_)
 rcases Zi h14 with ⟨rfl, g14⟩ | ⟨rfl, g14⟩
 ·refine Zr V (Zv (Zb (Zg (Zg (Zc (Za 15 V V V (Zd V V ?_)))))))
  refine Za 16 V V V (Yy V tu_28 V (.seq _ _) (fun n16 => ?_))
  refine Za 17 V V V (Zd V V (Vs (Zb (Zz ?_))))
  apply Xm [0, 3, 4, 5, 6, 7, 8, 9, 10, 11, 12, 13, 14, 17, 18, 19, 20, 21, 22, 23, 24, 25, 26, 27, 28, 29, 30, 31] (σ := Nat) (fun zz => match zz with | i => [(17, .val (.int .i64 i))]) (fun zz => match zz with | i => i ≤ xs.length ∧ (holdsL v gs (xs.drop i) (qs.drop i) ↔ holdsL v gs xs qs)) (fun zz => match zz with | i => xs.length - i) (0)
  ·repeat' (first | exact Ui | apply Ug rfl | apply Uh rfl)
  ·exact ⟨Nat.zero_le _, by rw [List.drop_zero, List.drop_zero]⟩
  ·exact by4
  rintro i hI
  try dsimp only [List.cons_append, List.nil_append] at hI ⊢
  obtain ⟨hi, hf⟩ := hI
  refine Zg (Zc (Za 18 V V V (Yu V V V ?_))); intro c18 h18
  refine Vs (Zb (Zg ?_))
  rcases Zi h18 with ⟨rfl, g18⟩ | ⟨rfl, g18⟩
  ·refine Zr V (Xc (Xe (Xv (Xd (Zb (Zg (Zc (Za 6 V V V (Ze V V (Vs (Zb (Ya ?_))))))))))))
   exact Yh V V (Vz _) (Vu _) ⟨⟨true, by simp only [true_iff]; exact hf.1 (by rw [Ul (by omega), Ul (by omega), holdsL]; trivial), V⟩, V⟩
  refine Zt V (Zv (Zb (Zg (Zz (Zg ?_)))))
  obtain ⟨⟨yk, yn, yc, yl⟩, hxy⟩ := Yw (l := xs) (i := i) (by omega)
  have hcy := Pf.cellss_get hxy
  obtain ⟨⟨zc, ⟨ztk, zts, ztn, ztl⟩⟩, hxz⟩ := Yw (l := qs) (i := i) (by omega)
  have hcz := Pr.cellss_get hxz
  have HG := hg _ (Uk hxy) _ (Uk hxz)
  rw [Xp hxy, Xp hxz, holdsL] at hf
  simp only [Pf.cells, Pr.cells, Ty.cells, List.nil_append] at hcy hcz HG
  refine Zc (Za 19 V V V (Zd V V (Za 20 V V V (Yd V te_28 V (.seq _ _) V V (hcy) (Za 21 V V V (Yc (cs' := [_, _, _, _]) V Wm V V V (Za 8 V V V (Zy (cs' := [_, _, _, _]) V tz_30 V V ?_)))))))); intro b8
  refine Za 7 V V V (Ze V V (Zs V V (Zq (cs' := [_, _, _, _]) (i := 0) V ts_30 V V V V V (Uf V) V (Vs (Zb (Zg (Zc (Za 22 V V V (Zd V V (Za 23 V V V (Zd V V (Za 24 V V V (Yd V te_22 V (.seq _ _) V V (hcz) (Za 25 V V V (Yc (cs' := [_, _, _, _, _]) V ta_27 V V V (Za 9 V V V (Zy (cs' := [_, _, _, _, _]) V tz_27 V V ?_))))))))))))))))); intro b9
  refine Zs V V (Zq (cs' := [_, _, _, _, _]) (i := 0) V ts_27 V V V V V (Uf V) V (Vs (Zb (Zg (Zc (Za 26 V V V (Zd V V (Za 27 V V V (Zx (cs' := [_, _, _, _]) (i := 1) V Wm V V V V (Za 28 V V V (Zx (cs' := [_, _, _, _, _]) (i := 0) V ta_27 V V V V (Za 29 V V V (op_callvb (xs := [.tmp 27, .tmp 28]) V V V (HG) by1 ?_))))))))))))); intro c29 h29
  refine Za 30 V V V (Xr V V ?_); intro c30 h30
  try replace h30 := nott h30 h29
  refine Vs (Zb ?_)
  rcases Zi h30 with ⟨rfl, g30⟩ | ⟨rfl, g30⟩
  ·refine Zr V (Zv (Yt (Zb (Zc (Za 31 V V V (Yx V V V (Uj _ (by omega)) ?_))))))
   refine Za 17 V V V (Zd V V (Vs (Yz ?_)))
   exact ⟨i + 1, ⟨by show i + 1 ≤ xs.length; omega, ⟨fun h => hf.1 ⟨Classical.not_not.1 g30, h⟩, fun h => (hf.2 h).2⟩⟩, by show xs.length - (i + 1) < xs.length - i; omega, by4, by3⟩
  refine Zt V (Zg (Zc (Za 6 V V V (Ze V V (Vs (Zb (Ya ?_)))))))
  exact Yh V V (Vz _) (Vu _) ⟨⟨false, by simp only [Bool.false_eq_true, false_iff]; exact fun h => g30 (hf.2 h).1, V⟩, V⟩
 refine Zt V (Zg (Zc (Za 6 V V V (Ze V V (Vs (Zb (Ya ?_)))))))
 exact Yh V V (Vz _) (Vu _) ⟨⟨false, by simp only [Bool.false_eq_true, false_iff]; exact fun h => g14 (by have := holdsL_len h; omega), V⟩, V⟩
theorem Holds1_in (v : En) (gs : List Pr) (i : Nat) (g : Pr) (hg : gs[i]? = some g) (c : ByteArray) (ks : List Pf) (p : Pr) : BCall Tryz.prog 14 [.agg v.cells, .seq 5 (Pr.cellss gs), .agg (Pf.mk 1 i c ks).cells, .agg p.cells] (c = kE ∧ ks.length = 0 ∧ g = p) := by
 have H := same_c g p
 obtain ⟨q, hq⟩ : ∃ q : Prop, (g = p) = q := ⟨_, rfl⟩
 rw [hq] at H ⊢
 clear hq
 have hgl := Pr.cellss_len gs
 have hkl := Pf.cellss_len ks
 have hcg := Pr.cellss_get hg
 have hi := Vf hg
 obtain ⟨gc, ⟨gtk, gts, gtn, gtl⟩⟩ := g
 obtain ⟨pc, ⟨pk, ps, pn, pl⟩⟩ := p
 obtain ⟨da, cl, ins⟩ := v
 simp only [En.cells, Pf.cells, Pr.cells, Ty.cells] at *
 refine Zw Tryz.func14 V (by kernel_rfl) V (Uf V) ?_
 refine Yf (Zg (Zc (Za 4 V V V (Ys (cs' := [_, _, _]) V V V V (Za 5 V V V (Ys (cs' := [_]) V V V V (Za 6 V V V (Ys (cs' := [_, _, _, _]) V V V V (Za 7 V V V (Ys (cs' := [_, _, _, _, _]) V V V V (Za 8 V V V (Ze V V (Vs (Zb (Zg (Zg (Zc (Za 11 V V V (Zj V tf_30_0 V V (Za 12 V V V (Zo V Xa V V (Vs (Zb (Zz (Zg (Zc (Za 14 V V V (Yr V V V ?_)))))))))))))))))))))))))))); intro c14 h14
 refine Za 13 V V V (Ze V V (Vs (Zb ?_)))
 rcases Zi h14 with ⟨rfl, g14⟩ | ⟨rfl, g14⟩
 ·exact absurd V g14
 refine Zt V (Zg (Vk 8 (c = kE ∧ ks.length = 0 ∧ q) Wo V ?_ _ _ V ?_))
 ·skip
  refine Zm 15 V V (Zj V tf_30_2 V V ⟨V, V⟩) ?_
  refine Zm 16 V V (Zo V Xb V V ⟨V, V⟩) ?_
  refine Wd 17 V V (fun _ q => Xx V V V q) ?_; intro c17 h17
  refine Zm 18 V V (Zd V V ⟨V, V⟩) ?_
  rcases Zi h17 with ⟨rfl, g17⟩ | ⟨rfl, g17⟩
  ·skip
   refine Zf 19 V V V V (Zf 20 V V V V (Zf 21 V V V V (Zf 22 V V V V (Zm 23 V V (Zn V V V ⟨V, V⟩) ?_))))
   refine Zm 24 V V (Zd V V ⟨V, V⟩) ?_
   refine Zf 25 V V V V (Zf 26 V V V V (Zf 27 V V V V (Zm 28 V V (Zn V V V ⟨V, V⟩) ?_)))
   refine Zm 29 V V (Zd V V ⟨V, V⟩) ?_
   refine Zf 30 V V V V (Zf 31 V V V V (Zf 32 V V V V (Zf 33 V V V V (Zf 34 V V V V (Zm 35 V V (Zn V V V ⟨V, V⟩) ?_)))))
   refine Zm 36 V V (Zd V V ⟨V, V⟩) ?_
   refine Zf 37 V V V V (Zf 38 V V V V (Zf 39 V V V V (Zf 40 V V V V (Zf 41 V V V V (Zf 42 V V V V (Zf 43 V V V V (Zm 44 V V (Zn V V V ⟨V, V⟩) ?_)))))))
   refine Zm 8 V V (Ze V V ⟨V, V⟩) ?_
   show BoolQ _ _ _ _ _ _
   refine Ud V ?_ by5 by3
   clear H; first | (simp_all; done) | (simp_all; omega) | grind
  skip
  refine Zu 19 V V V V (Zj V tf_30_3 V V ⟨V, V⟩) ?_
  refine Zu 20 V V V V (Zo V ta_28 V V ⟨V, V⟩) ?_
  refine Zu 21 V V V V (Yy V tu_28 V (.seq _ _) (fun _ => ⟨V, V⟩)) ?_
  refine Xi 22 V V V V (fun _ q => Yr V V V q) ?_; intro c22 h22
  refine Zm 23 V V (Zn V V V ⟨V, V⟩) ?_
  refine Zm 24 V V (Zd V V ⟨V, V⟩) ?_
  rcases Zi h22 with ⟨rfl, g22⟩ | ⟨rfl, g22⟩
  ·skip
   refine Zf 25 V V V V (Zf 26 V V V V (Zf 27 V V V V (Zm 28 V V (Zn V V V ⟨V, V⟩) ?_)))
   refine Zm 29 V V (Zd V V ⟨V, V⟩) ?_
   refine Zf 30 V V V V (Zf 31 V V V V (Zf 32 V V V V (Zf 33 V V V V (Zf 34 V V V V (Zm 35 V V (Zn V V V ⟨V, V⟩) ?_)))))
   refine Zm 36 V V (Zd V V ⟨V, V⟩) ?_
   refine Zf 37 V V V V (Zf 38 V V V V (Zf 39 V V V V (Zf 40 V V V V (Zf 41 V V V V (Zf 42 V V V V (Zf 43 V V V V (Zm 44 V V (Zn V V V ⟨V, V⟩) ?_)))))))
   refine Zm 8 V V (Ze V V ⟨V, V⟩) ?_
   show BoolQ _ _ _ _ _ _
   refine Ud V ?_ by5 by3
   clear H; first | (simp_all; done) | (simp_all; omega) | grind
  skip
  refine Zu 25 V V V V (Zj V Wu V V ⟨V, V⟩) ?_
  refine Zu 26 V V V V (Zo V Xa V V ⟨V, V⟩) ?_
  refine Xi 27 V V V V (fun _ q => Wa V V V q) ?_; intro c27 h27
  refine Zm 28 V V (Zn V V V ⟨V, V⟩) ?_
  refine Zm 29 V V (Zd V V ⟨V, V⟩) ?_
  rcases Zi h27 with ⟨rfl, g27⟩ | ⟨rfl, g27⟩
  ·skip
   refine Zf 30 V V V V (Zf 31 V V V V (Zf 32 V V V V (Zf 33 V V V V (Zf 34 V V V V (Zm 35 V V (Zn V V V ⟨V, V⟩) ?_)))))
   refine Zm 36 V V (Zd V V ⟨V, V⟩) ?_
   refine Zf 37 V V V V (Zf 38 V V V V (Zf 39 V V V V (Zf 40 V V V V (Zf 41 V V V V (Zf 42 V V V V (Zf 43 V V V V (Zm 44 V V (Zn V V V ⟨V, V⟩) ?_)))))))
   refine Zm 8 V V (Ze V V ⟨V, V⟩) ?_
   show BoolQ _ _ _ _ _ _
   refine Ud V ?_ by5 by3
   clear H; first | (simp_all; done) | (simp_all; omega) | grind
  skip
  refine Zu 30 V V V V (Zj V Wu V V ⟨V, V⟩) ?_
  refine Zu 31 V V V V (Zo V Xa V V ⟨V, V⟩) ?_
  refine Zu 32 V V V V (Zo V ta_22 V V ⟨V, V⟩) ?_
  refine Zu 33 V V V V (Yy V tu_22 V (.seq _ _) (fun _ => ⟨V, V⟩)) ?_
  refine Xi 34 V V V V (fun _ q => Yu V V V q) ?_; intro c34 h34
  refine Zm 35 V V (Zn V V V ⟨V, V⟩) ?_
  refine Zm 36 V V (Zd V V ⟨V, V⟩) ?_
  rcases Zi h34 with ⟨rfl, g34⟩ | ⟨rfl, g34⟩
  ·skip
   refine Zf 37 V V V V (Zf 38 V V V V (Zf 39 V V V V (Zf 40 V V V V (Zf 41 V V V V (Zf 42 V V V V (Zf 43 V V V V (Zm 44 V V (Zn V V V ⟨V, V⟩) ?_)))))))
   refine Zm 8 V V (Ze V V ⟨V, V⟩) ?_
   show BoolQ _ _ _ _ _ _
   refine Ud V ?_ by5 by3
   clear H; first | (simp_all; done) | (simp_all; omega) | grind
  skip
  refine Zu 37 V V V V (Zo V ta_22 V V ⟨V, V⟩) ?_
  refine Zu 38 V V V V (Zj V Wu V V ⟨V, V⟩) ?_
  refine Zu 39 V V V V (Zo V Xa V V ⟨V, V⟩) ?_
  refine Zu 40 V V V V (Yd V te_22 V (.seq _ _) V V (hcg) ⟨V, V⟩) ?_
  refine Zu 41 V V V V (Yc (cs' := [_, _, _, _, _]) V ta_27 V V V ⟨V, V⟩) ?_
  refine Zu 42 V V V V (Yc (cs' := [_, _, _, _, _]) V ta_27 V V V ⟨V, V⟩) ?_
  refine Xi 43 V V V V (fun _ q => Yg (xs := [.tmp 41, .tmp 42]) V V (H) by1 q) ?_; intro c43 h43
  refine Zm 44 V V (Zn V V V ⟨V, V⟩) ?_
  refine Zm 8 V V (Ze V V ⟨V, V⟩) ?_
  show BoolQ _ _ _ _ _ _
  refine Ud V ?_ by5 by3
  clear H; first | (simp_all; done) | (simp_all; omega) | grind
 intro c8 h8
 exact Zb (Ya (Yh V V (Vz _) (Vu _) ⟨⟨_, h8, V⟩, V⟩))
theorem Holds1_out (v : En) (gs : List Pr) (n : Int) (hn : n < 0 ∨ gs.length ≤ n) (c : ByteArray) (ks : List Pf) (p : Pr) : BCall Tryz.prog 14 [.agg v.cells, .seq 5 (Pr.cellss gs), .agg (Pf.mk 1 n c ks).cells, .agg p.cells] False := by
 have hgl := Pr.cellss_len gs
 have hkl := Pf.cellss_len ks
 obtain ⟨pc, ⟨pk, ps, pn, pl⟩⟩ := p
 obtain ⟨da, cl, ins⟩ := v
 simp only [En.cells, Pf.cells, Pr.cells, Ty.cells] at *
 refine Zw Tryz.func14 V (by kernel_rfl) V (Uf V) ?_
 refine Yf (Zg (Zc (Za 4 V V V (Ys (cs' := [_, _, _]) V V V V (Za 5 V V V (Ys (cs' := [_]) V V V V (Za 6 V V V (Ys (cs' := [_, _, _, _]) V V V V (Za 7 V V V (Ys (cs' := [_, _, _, _, _]) V V V V (Za 8 V V V (Ze V V (Vs (Zb (Zg (Zg (Zc (Za 11 V V V (Zj V tf_30_0 V V (Za 12 V V V (Zo V Xa V V (Vs (Zb (Zz (Zg (Zc (Za 14 V V V (Yr V V V ?_)))))))))))))))))))))))))))); intro c14 h14
 refine Za 13 V V V (Ze V V (Vs (Zb ?_)))
 rcases Zi h14 with ⟨rfl, g14⟩ | ⟨rfl, g14⟩
 ·exact absurd V g14
 refine Zt V (Zg (Vk 8 (False) Wo V ?_ _ _ V ?_))
 ·skip
  refine Zm 15 V V (Zj V tf_30_2 V V ⟨V, V⟩) ?_
  refine Zm 16 V V (Zo V Xb V V ⟨V, V⟩) ?_
  refine Wd 17 V V (fun _ q => Xx V V V q) ?_; intro c17 h17
  refine Zm 18 V V (Zd V V ⟨V, V⟩) ?_
  rcases Zi h17 with ⟨rfl, g17⟩ | ⟨rfl, g17⟩
  ·skip
   refine Zf 19 V V V V (Zf 20 V V V V (Zf 21 V V V V (Zf 22 V V V V (Zm 23 V V (Zn V V V ⟨V, V⟩) ?_))))
   refine Zm 24 V V (Zd V V ⟨V, V⟩) ?_
   refine Zf 25 V V V V (Zf 26 V V V V (Zf 27 V V V V (Zm 28 V V (Zn V V V ⟨V, V⟩) ?_)))
   refine Zm 29 V V (Zd V V ⟨V, V⟩) ?_
   refine Zf 30 V V V V (Zf 31 V V V V (Zf 32 V V V V (Zf 33 V V V V (Zf 34 V V V V (Zm 35 V V (Zn V V V ⟨V, V⟩) ?_)))))
   refine Zm 36 V V (Zd V V ⟨V, V⟩) ?_
   refine Zf 37 V V V V (Zf 38 V V V V (Zf 39 V V V V (Zf 40 V V V V (Zf 41 V V V V (Zf 42 V V V V (Zf 43 V V V V (Zm 44 V V (Zn V V V ⟨V, V⟩) ?_)))))))
   refine Zm 8 V V (Ze V V ⟨V, V⟩) ?_
   show BoolQ _ _ _ _ _ _
   refine Ud V ?_ by5 by3
   first | (simp_all; done) | (simp_all; omega) | grind
  skip
  refine Zu 19 V V V V (Zj V tf_30_3 V V ⟨V, V⟩) ?_
  refine Zu 20 V V V V (Zo V ta_28 V V ⟨V, V⟩) ?_
  refine Zu 21 V V V V (Yy V tu_28 V (.seq _ _) (fun _ => ⟨V, V⟩)) ?_
  refine Xi 22 V V V V (fun _ q => Yr V V V q) ?_; intro c22 h22
  refine Zm 23 V V (Zn V V V ⟨V, V⟩) ?_
  refine Zm 24 V V (Zd V V ⟨V, V⟩) ?_
  rcases Zi h22 with ⟨rfl, g22⟩ | ⟨rfl, g22⟩
  ·skip
   refine Zf 25 V V V V (Zf 26 V V V V (Zf 27 V V V V (Zm 28 V V (Zn V V V ⟨V, V⟩) ?_)))
   refine Zm 29 V V (Zd V V ⟨V, V⟩) ?_
   refine Zf 30 V V V V (Zf 31 V V V V (Zf 32 V V V V (Zf 33 V V V V (Zf 34 V V V V (Zm 35 V V (Zn V V V ⟨V, V⟩) ?_)))))
   refine Zm 36 V V (Zd V V ⟨V, V⟩) ?_
   refine Zf 37 V V V V (Zf 38 V V V V (Zf 39 V V V V (Zf 40 V V V V (Zf 41 V V V V (Zf 42 V V V V (Zf 43 V V V V (Zm 44 V V (Zn V V V ⟨V, V⟩) ?_)))))))
   refine Zm 8 V V (Ze V V ⟨V, V⟩) ?_
   show BoolQ _ _ _ _ _ _
   refine Ud V ?_ by5 by3
   first | (simp_all; done) | (simp_all; omega) | grind
  skip
  refine Zu 25 V V V V (Zj V Wu V V ⟨V, V⟩) ?_
  refine Zu 26 V V V V (Zo V Xa V V ⟨V, V⟩) ?_
  refine Xi 27 V V V V (fun _ q => Wa V V V q) ?_; intro c27 h27
  refine Zm 28 V V (Zn V V V ⟨V, V⟩) ?_
  refine Zm 29 V V (Zd V V ⟨V, V⟩) ?_
  rcases Zi h27 with ⟨rfl, g27⟩ | ⟨rfl, g27⟩
  ·skip
   refine Zf 30 V V V V (Zf 31 V V V V (Zf 32 V V V V (Zf 33 V V V V (Zf 34 V V V V (Zm 35 V V (Zn V V V ⟨V, V⟩) ?_)))))
   refine Zm 36 V V (Zd V V ⟨V, V⟩) ?_
   refine Zf 37 V V V V (Zf 38 V V V V (Zf 39 V V V V (Zf 40 V V V V (Zf 41 V V V V (Zf 42 V V V V (Zf 43 V V V V (Zm 44 V V (Zn V V V ⟨V, V⟩) ?_)))))))
   refine Zm 8 V V (Ze V V ⟨V, V⟩) ?_
   show BoolQ _ _ _ _ _ _
   refine Ud V ?_ by5 by3
   first | (simp_all; done) | (simp_all; omega) | grind
  skip
  refine Zu 30 V V V V (Zj V Wu V V ⟨V, V⟩) ?_
  refine Zu 31 V V V V (Zo V Xa V V ⟨V, V⟩) ?_
  refine Zu 32 V V V V (Zo V ta_22 V V ⟨V, V⟩) ?_
  refine Zu 33 V V V V (Yy V tu_22 V (.seq _ _) (fun _ => ⟨V, V⟩)) ?_
  refine Xi 34 V V V V (fun _ q => Yu V V V q) ?_; intro c34 h34
  refine Zm 35 V V (Zn V V V ⟨V, V⟩) ?_
  refine Zm 36 V V (Zd V V ⟨V, V⟩) ?_
  rcases Zi h34 with ⟨rfl, g34⟩ | ⟨rfl, g34⟩
  ·skip
   refine Zf 37 V V V V (Zf 38 V V V V (Zf 39 V V V V (Zf 40 V V V V (Zf 41 V V V V (Zf 42 V V V V (Zf 43 V V V V (Zm 44 V V (Zn V V V ⟨V, V⟩) ?_)))))))
   refine Zm 8 V V (Ze V V ⟨V, V⟩) ?_
   show BoolQ _ _ _ _ _ _
   refine Ud V ?_ by5 by3
   first | (simp_all; done) | (simp_all; omega) | grind
  omega
 intro c8 h8
 exact Zb (Ya (Yh V V (Vz _) (Vu _) ⟨⟨_, h8, V⟩, V⟩))
theorem classI_hit {v : En} {c : ByteArray} (h : 0 ≤ classI v c) : ∃ (j : Nat) (z : Cl), classI v c = j ∧ v.cl[j]? = some z ∧ supersOf v c = z.su := by
 obtain ⟨cx, hcx, hcs, _⟩ := Vq (fun (c' : Cl) => sameB c'.s c) v.cl 0 h
 refine ⟨(classI v c).toNat, cx, by omega, hcx, ?_⟩
 unfold supersOf
 rw [show v.cl[(classI v c).toNat]? = some cx from hcx]
 rfl
theorem Holds2_no (v : En) (gs : List Pr) (n : Int) (c : ByteArray) (hc : ¬ 0 ≤ classI v c) (ks : List Pf) (p : Pr) : BCall Tryz.prog 14 [.agg v.cells, .seq 5 (Pr.cellss gs), .agg (Pf.mk 2 n c ks).cells, .agg p.cells] False := by
 have H := tClass_c v c
 rw [show decide (0 ≤ classI v c) = false from decide_eq_false hc] at H
 generalize max (classI v c) 0 = m at *
 clear hc
 obtain ⟨pc, ⟨pk, ps, pn, pl⟩⟩ := p
 obtain ⟨da, cl, ins⟩ := v
 simp only [En.cells, Pf.cells, Pr.cells, Ty.cells] at *
 refine Zw Tryz.func14 V (by kernel_rfl) V (Uf V) ?_
 refine Yf (Zg (Zc (Za 4 V V V (Ys (cs' := [_, _, _]) V V V V (Za 5 V V V (Ys (cs' := [_]) V V V V (Za 6 V V V (Ys (cs' := [_, _, _, _]) V V V V (Za 7 V V V (Ys (cs' := [_, _, _, _, _]) V V V V (Za 8 V V V (Ze V V (Vs (Zb (Zg (Zg (Zc (Za 11 V V V (Zj V tf_30_0 V V (Za 12 V V V (Zo V Xa V V (Vs (Zb (Zz (Zg (Zc (Za 14 V V V (Yr V V V ?_)))))))))))))))))))))))))))); intro c14 h14
 refine Za 13 V V V (Ze V V (Vs (Zb ?_)))
 rcases Zi h14 with ⟨rfl, g14⟩ | ⟨rfl, g14⟩
 ·refine Zr V (Zg (Zc (Za 46 V V V (Yr V V V ?_)))); intro c46 h46
  refine Za 45 V V V (Ze V V (Vs (Zb ?_)))
  rcases Zi h46 with ⟨rfl, g46⟩ | ⟨rfl, g46⟩
  ·exact absurd V g46
  refine Zt V (Zg (Zc (Za 48 V V V (Yc (cs' := [_, _, _]) V Xw V V V (Za 49 V V V (Zj V tf_30_2 V V (Za 50 V V V (Zo V Xb V V (Za 51 V V V (Ym (xs := [.tmp 48, .tmp 50]) V V (H) by1 ?_))))))))))
  refine Za 47 V V V (Zd V V (Za 52 V V V (Yv V V V (Za 53 V V V (Yv V V V (Za 9 V V V (Ze V V (Za 10 V V V (Ze V V (Vs (Zb (Zg (Zg (Vk 93 (True) Wo V ?_ _ _ V ?_))))))))))))))
  ·skip
   refine Zm 54 V V (Zd V V ⟨V, V⟩) ?_
   refine Wd 55 V V (fun _ q => Xr V V q) ?_; intro c55 h55
   try replace h55 := nott h55 h53
   refine Zm 56 V V (Zd V V ⟨V, V⟩) ?_
   rcases Zi h55 with ⟨rfl, g55⟩ | ⟨rfl, g55⟩
   ·first | exact absurd rfl g55 | simp_all
   skip
   refine Zf 57 V V V V (Zf 58 V V V V (Zf 59 V V V V (Zf 60 V V V V (Zm 61 V V (Zn V V V ⟨V, V⟩) ?_))))
   refine Zm 62 V V (Zd V V ⟨V, V⟩) ?_
   refine Zf 63 V V V V (Zf 64 V V V V (Zf 65 V V V V (Zm 66 V V (Zn V V V ⟨V, V⟩) ?_)))
   refine Zm 67 V V (Zd V V ⟨V, V⟩) ?_
   refine Zf 68 V V V V (Zf 69 V V V V (Zf 70 V V V V (Zf 71 V V V V (Zf 72 V V V V (Zf 73 V V V V (Zf 74 V V V V (Zf 75 V V V V (Zf 76 V V V V (Zf 77 V V V V (Zm 78 V V (Zn V V V ⟨V, V⟩) ?_))))))))))
   refine Zm 79 V V (Zd V V ⟨V, V⟩) ?_
   refine Zf 80 V V V V (Zf 81 V V V V (Zf 82 V V V V (Zf 83 V V V V (Zf 84 V V V V (Zf 85 V V V V (Zf 86 V V V V (Zf 87 V V V V (Zf 88 V V V V (Zf 89 V V V V (Zf 90 V V V V (Zf 91 V V V V ?_)))))))))))
   refine Zf 92 V V V V (Zm 93 V V (Zn V V V ⟨V, V⟩) ?_)
   show BoolQ _ _ _ _ _ _
   refine Ud V ?_ by5 by3
   first | (simp_all; done) | grind
  intro c93 h93
  refine Zb ?_
  rcases Zi h93 with ⟨rfl, g93⟩ | ⟨rfl, g93⟩
  ·exact absurd trivial g93
  exact Zt V (Zg (Zc (Za 8 V V V (Ze V V (Vs (Zb (Ya (Yh V V (Vz _) (Vu _) ⟨⟨false, by simp, V⟩, V⟩))))))))
 exact absurd g14 (by decide)
theorem Holds2_out (v : En) (gs : List Pr) (n : Int) (c : ByteArray) (j : Nat) (z : Cl) (hj : classI v c = j) (hz : v.cl[j]? = some z) (hn : n < 0 ∨ z.su.length ≤ n) (ks : List Pf) (p : Pr) : BCall Tryz.prog 14 [.agg v.cells, .seq 5 (Pr.cellss gs), .agg (Pf.mk 2 n c ks).cells, .agg p.cells] False := by
 have H := tClass_c v c
 rw [hj, show decide ((0 : Int) ≤ (j : Int)) = true from decide_eq_true (by omega), show max (j : Int) 0 = j by omega] at H
 clear hj
 have hcz := Cl.cellss_get hz
 have hjl := Vf hz
 have hkl := Pf.cellss_len ks
 obtain ⟨pc, ⟨pk, ps, pn, pl⟩⟩ := p
 obtain ⟨da, cl, ins⟩ := v
 have hcl := Cl.cellss_len cl
 obtain ⟨ys, yv, ysu, yms, yds, yp⟩ := z
 have hls := Xt ysu
 simp only [En.cells, Pf.cells, Pr.cells, Ty.cells, Cl.cells, Cl.su, En.cl] at *
 refine Zw Tryz.func14 V (by kernel_rfl) V (Uf V) ?_
 refine Yf (Zg (Zc (Za 4 V V V (Ys (cs' := [_, _, _]) V V V V (Za 5 V V V (Ys (cs' := [_]) V V V V (Za 6 V V V (Ys (cs' := [_, _, _, _]) V V V V (Za 7 V V V (Ys (cs' := [_, _, _, _, _]) V V V V (Za 8 V V V (Ze V V (Vs (Zb (Zg (Zg (Zc (Za 11 V V V (Zj V tf_30_0 V V (Za 12 V V V (Zo V Xa V V (Vs (Zb (Zz (Zg (Zc (Za 14 V V V (Yr V V V ?_)))))))))))))))))))))))))))); intro c14 h14
 refine Za 13 V V V (Ze V V (Vs (Zb ?_)))
 rcases Zi h14 with ⟨rfl, g14⟩ | ⟨rfl, g14⟩
 ·refine Zr V (Zg (Zc (Za 46 V V V (Yr V V V ?_)))); intro c46 h46
  refine Za 45 V V V (Ze V V (Vs (Zb ?_)))
  rcases Zi h46 with ⟨rfl, g46⟩ | ⟨rfl, g46⟩
  ·exact absurd V g46
  refine Zt V (Zg (Zc (Za 48 V V V (Yc (cs' := [_, _, _]) V Xw V V V (Za 49 V V V (Zj V tf_30_2 V V (Za 50 V V V (Zo V Xb V V (Za 51 V V V (Ym (xs := [.tmp 48, .tmp 50]) V V (H) by1 ?_))))))))))
  refine Za 47 V V V (Zd V V (Za 52 V V V (Yv V V V (Za 53 V V V (Yv V V V (Za 9 V V V (Ze V V (Za 10 V V V (Ze V V (Vs (Zb (Zg (Zg (Vk 93 (True) Wo V ?_ _ _ V ?_))))))))))))))
  ·skip
   refine Zm 54 V V (Zd V V ⟨V, V⟩) ?_
   refine Wd 55 V V (fun _ q => Xr V V q) ?_; intro c55 h55
   try replace h55 := nott h55 h53
   refine Zm 56 V V (Zd V V ⟨V, V⟩) ?_
   rcases Zi h55 with ⟨rfl, g55⟩ | ⟨rfl, g55⟩
   ·skip
    refine Zu 57 V V V V (Zj V tf_30_3 V V ⟨V, V⟩) ?_
    refine Zu 58 V V V V (Zo V ta_28 V V ⟨V, V⟩) ?_
    refine Zu 59 V V V V (Yy V tu_28 V (.seq _ _) (fun _ => ⟨V, V⟩)) ?_
    refine Xi 60 V V V V (fun _ q => Xq V V V q) ?_; intro c60 h60
    refine Zm 61 V V (Zn V V V ⟨V, V⟩) ?_
    refine Zm 62 V V (Zd V V ⟨V, V⟩) ?_
    rcases Zi h60 with ⟨rfl, g60⟩ | ⟨rfl, g60⟩
    ·skip
     refine Zu 63 V V V V (Zj V Wu V V ⟨V, V⟩) ?_
     refine Zu 64 V V V V (Zo V Xa V V ⟨V, V⟩) ?_
     refine Xi 65 V V V V (fun _ q => Yu V V V q) ?_; intro c65 h65
     refine Zm 66 V V (Zn V V V ⟨V, V⟩) ?_
     refine Zm 67 V V (Zd V V ⟨V, V⟩) ?_
     rcases Zi h65 with ⟨rfl, g65⟩ | ⟨rfl, g65⟩
     ·skip
      refine Zu 68 V V V V (Zj V Wu V V ⟨V, V⟩) ?_
      refine Zu 69 V V V V (Zo V Xa V V ⟨V, V⟩) ?_
      refine Zu 70 V V V V (Zj V Wi V V ⟨V, V⟩) ?_
      refine Zu 71 V V V V (Zo V Vm V V ⟨V, V⟩) ?_
      refine Zu 72 V V V V (Zd V V ⟨V, V⟩) ?_
      refine Zu 73 V V V V (Yd V te_35 V (.seq _ _) V V (hcz) ⟨V, V⟩) ?_
      refine Zu 74 V V V V (Zj V tf_77_2 V V ⟨V, V⟩) ?_
      refine Zu 75 V V V V (Zo V ta_68 V V ⟨V, V⟩) ?_
      refine Zu 76 V V V V (Yy V tu_68 V (.seq _ _) (fun _ => ⟨V, V⟩)) ?_
      refine Xi 77 V V V V (fun _ q => Wa V V V q) ?_; intro c77 h77
      refine Zm 78 V V (Zn V V V ⟨V, V⟩) ?_
      refine Zm 79 V V (Zd V V ⟨V, V⟩) ?_
      rcases Zi h77 with ⟨rfl, g77⟩ | ⟨rfl, g77⟩
      ·omega
      skip
      refine Zf 80 V V V V (Zf 81 V V V V (Zf 82 V V V V (Zf 83 V V V V (Zf 84 V V V V (Zf 85 V V V V (Zf 86 V V V V (Zf 87 V V V V (Zf 88 V V V V (Zf 89 V V V V (Zf 90 V V V V (Zf 91 V V V V ?_)))))))))))
      refine Zf 92 V V V V (Zm 93 V V (Zn V V V ⟨V, V⟩) ?_)
      show BoolQ _ _ _ _ _ _
      refine Ud V ?_ by5 by3
      first | (simp_all; done) | grind
     skip
     refine Zf 68 V V V V (Zf 69 V V V V (Zf 70 V V V V (Zf 71 V V V V (Zf 72 V V V V (Zf 73 V V V V (Zf 74 V V V V (Zf 75 V V V V (Zf 76 V V V V (Zf 77 V V V V (Zm 78 V V (Zn V V V ⟨V, V⟩) ?_))))))))))
     refine Zm 79 V V (Zd V V ⟨V, V⟩) ?_
     refine Zf 80 V V V V (Zf 81 V V V V (Zf 82 V V V V (Zf 83 V V V V (Zf 84 V V V V (Zf 85 V V V V (Zf 86 V V V V (Zf 87 V V V V (Zf 88 V V V V (Zf 89 V V V V (Zf 90 V V V V (Zf 91 V V V V ?_)))))))))))
     refine Zf 92 V V V V (Zm 93 V V (Zn V V V ⟨V, V⟩) ?_)
     show BoolQ _ _ _ _ _ _
     refine Ud V ?_ by5 by3
     first | (simp_all; done) | grind
    skip
    refine Zf 63 V V V V (Zf 64 V V V V (Zf 65 V V V V (Zm 66 V V (Zn V V V ⟨V, V⟩) ?_)))
    refine Zm 67 V V (Zd V V ⟨V, V⟩) ?_
    refine Zf 68 V V V V (Zf 69 V V V V (Zf 70 V V V V (Zf 71 V V V V (Zf 72 V V V V (Zf 73 V V V V (Zf 74 V V V V (Zf 75 V V V V (Zf 76 V V V V (Zf 77 V V V V (Zm 78 V V (Zn V V V ⟨V, V⟩) ?_))))))))))
    refine Zm 79 V V (Zd V V ⟨V, V⟩) ?_
    refine Zf 80 V V V V (Zf 81 V V V V (Zf 82 V V V V (Zf 83 V V V V (Zf 84 V V V V (Zf 85 V V V V (Zf 86 V V V V (Zf 87 V V V V (Zf 88 V V V V (Zf 89 V V V V (Zf 90 V V V V (Zf 91 V V V V ?_)))))))))))
    refine Zf 92 V V V V (Zm 93 V V (Zn V V V ⟨V, V⟩) ?_)
    show BoolQ _ _ _ _ _ _
    refine Ud V ?_ by5 by3
    first | (simp_all; done) | grind
   skip
   refine Zf 57 V V V V (Zf 58 V V V V (Zf 59 V V V V (Zf 60 V V V V (Zm 61 V V (Zn V V V ⟨V, V⟩) ?_))))
   refine Zm 62 V V (Zd V V ⟨V, V⟩) ?_
   refine Zf 63 V V V V (Zf 64 V V V V (Zf 65 V V V V (Zm 66 V V (Zn V V V ⟨V, V⟩) ?_)))
   refine Zm 67 V V (Zd V V ⟨V, V⟩) ?_
   refine Zf 68 V V V V (Zf 69 V V V V (Zf 70 V V V V (Zf 71 V V V V (Zf 72 V V V V (Zf 73 V V V V (Zf 74 V V V V (Zf 75 V V V V (Zf 76 V V V V (Zf 77 V V V V (Zm 78 V V (Zn V V V ⟨V, V⟩) ?_))))))))))
   refine Zm 79 V V (Zd V V ⟨V, V⟩) ?_
   refine Zf 80 V V V V (Zf 81 V V V V (Zf 82 V V V V (Zf 83 V V V V (Zf 84 V V V V (Zf 85 V V V V (Zf 86 V V V V (Zf 87 V V V V (Zf 88 V V V V (Zf 89 V V V V (Zf 90 V V V V (Zf 91 V V V V ?_)))))))))))
   refine Zf 92 V V V V (Zm 93 V V (Zn V V V ⟨V, V⟩) ?_)
   show BoolQ _ _ _ _ _ _
   refine Ud V ?_ by5 by3
   first | (simp_all; done) | grind
  intro c93 h93
  refine Zb ?_
  rcases Zi h93 with ⟨rfl, g93⟩ | ⟨rfl, g93⟩
  ·exact absurd trivial g93
  exact Zt V (Zg (Zc (Za 8 V V V (Ze V V (Vs (Zb (Ya (Yh V V (Vz _) (Vu _) ⟨⟨false, by simp, V⟩, V⟩))))))))
 exact absurd g14 (by decide)
theorem Holds2_in (v : En) (gs : List Pr) (i : Nat) (c : ByteArray) (j : Nat) (z : Cl) (hj : classI v c = j) (hz : v.cl[j]? = some z) (s : ByteArray) (hs : z.su[i]? = some s) (ks : List Pf) (p : Pr) (hk : ¬ (ks.length = 1 ∧ s = p.c)) : BCall Tryz.prog 14 [.agg v.cells, .seq 5 (Pr.cellss gs), .agg (Pf.mk 2 i c ks).cells, .agg p.cells] False := by
 have H := tClass_c v c
 rw [hj, show decide ((0 : Int) ≤ (j : Int)) = true from decide_eq_true (by omega), show max (j : Int) 0 = j by omega] at H
 clear hj
 have hcz := Cl.cellss_get hz
 have hcs := strs_get hs
 have hjl := Vf hz
 have hsl := Vf hs
 have hkl := Pf.cellss_len ks
 obtain ⟨pc, ⟨pk, ps, pn, pl⟩⟩ := p
 obtain ⟨da, cl, ins⟩ := v
 have hcl := Cl.cellss_len cl
 obtain ⟨ys, yv, ysu, yms, yds, yp⟩ := z
 have hls := Xt ysu
 simp only [En.cells, Pf.cells, Pr.cells, Ty.cells, Cl.cells, Cl.su, En.cl, Pr.c] at *
 refine Zw Tryz.func14 V (by kernel_rfl) V (Uf V) ?_
 refine Yf (Zg (Zc (Za 4 V V V (Ys (cs' := [_, _, _]) V V V V (Za 5 V V V (Ys (cs' := [_]) V V V V (Za 6 V V V (Ys (cs' := [_, _, _, _]) V V V V (Za 7 V V V (Ys (cs' := [_, _, _, _, _]) V V V V (Za 8 V V V (Ze V V (Vs (Zb (Zg (Zg (Zc (Za 11 V V V (Zj V tf_30_0 V V (Za 12 V V V (Zo V Xa V V (Vs (Zb (Zz (Zg (Zc (Za 14 V V V (Yr V V V ?_)))))))))))))))))))))))))))); intro c14 h14
 refine Za 13 V V V (Ze V V (Vs (Zb ?_)))
 rcases Zi h14 with ⟨rfl, g14⟩ | ⟨rfl, g14⟩
 ·refine Zr V (Zg (Zc (Za 46 V V V (Yr V V V ?_)))); intro c46 h46
  refine Za 45 V V V (Ze V V (Vs (Zb ?_)))
  rcases Zi h46 with ⟨rfl, g46⟩ | ⟨rfl, g46⟩
  ·exact absurd V g46
  refine Zt V (Zg (Zc (Za 48 V V V (Yc (cs' := [_, _, _]) V Xw V V V (Za 49 V V V (Zj V tf_30_2 V V (Za 50 V V V (Zo V Xb V V (Za 51 V V V (Ym (xs := [.tmp 48, .tmp 50]) V V (H) by1 ?_))))))))))
  refine Za 47 V V V (Zd V V (Za 52 V V V (Yv V V V (Za 53 V V V (Yv V V V (Za 9 V V V (Ze V V (Za 10 V V V (Ze V V (Vs (Zb (Zg (Zg (Vk 93 (¬ (ks.length = 1 ∧ s = pc)) Wo V ?_ _ _ V ?_))))))))))))))
  ·skip
   refine Zm 54 V V (Zd V V ⟨V, V⟩) ?_
   refine Wd 55 V V (fun _ q => Xr V V q) ?_; intro c55 h55
   try replace h55 := nott h55 h53
   refine Zm 56 V V (Zd V V ⟨V, V⟩) ?_
   rcases Zi h55 with ⟨rfl, g55⟩ | ⟨rfl, g55⟩
   ·skip
    refine Zu 57 V V V V (Zj V tf_30_3 V V ⟨V, V⟩) ?_
    refine Zu 58 V V V V (Zo V ta_28 V V ⟨V, V⟩) ?_
    refine Zu 59 V V V V (Yy V tu_28 V (.seq _ _) (fun _ => ⟨V, V⟩)) ?_
    refine Xi 60 V V V V (fun _ q => Xq V V V q) ?_; intro c60 h60
    refine Zm 61 V V (Zn V V V ⟨V, V⟩) ?_
    refine Zm 62 V V (Zd V V ⟨V, V⟩) ?_
    rcases Zi h60 with ⟨rfl, g60⟩ | ⟨rfl, g60⟩
    ·skip
     refine Zu 63 V V V V (Zj V Wu V V ⟨V, V⟩) ?_
     refine Zu 64 V V V V (Zo V Xa V V ⟨V, V⟩) ?_
     refine Xi 65 V V V V (fun _ q => Yu V V V q) ?_; intro c65 h65
     refine Zm 66 V V (Zn V V V ⟨V, V⟩) ?_
     refine Zm 67 V V (Zd V V ⟨V, V⟩) ?_
     rcases Zi h65 with ⟨rfl, g65⟩ | ⟨rfl, g65⟩
     ·skip
      refine Zu 68 V V V V (Zj V Wu V V ⟨V, V⟩) ?_
      refine Zu 69 V V V V (Zo V Xa V V ⟨V, V⟩) ?_
      refine Zu 70 V V V V (Zj V Wi V V ⟨V, V⟩) ?_
      refine Zu 71 V V V V (Zo V Vm V V ⟨V, V⟩) ?_
      refine Zu 72 V V V V (Zd V V ⟨V, V⟩) ?_
      refine Zu 73 V V V V (Yd V te_35 V (.seq _ _) V V (by first | exact hcz | exact hcs) ⟨V, V⟩) ?_
      refine Zu 74 V V V V (Zj V tf_77_2 V V ⟨V, V⟩) ?_
      refine Zu 75 V V V V (Zo V ta_68 V V ⟨V, V⟩) ?_
      refine Zu 76 V V V V (Yy V tu_68 V (.seq _ _) (fun _ => ⟨V, V⟩)) ?_
      refine Xi 77 V V V V (fun _ q => Wa V V V q) ?_; intro c77 h77
      refine Zm 78 V V (Zn V V V ⟨V, V⟩) ?_
      refine Zm 79 V V (Zd V V ⟨V, V⟩) ?_
      rcases Zi h77 with ⟨rfl, g77⟩ | ⟨rfl, g77⟩
      ·skip
       refine Zu 80 V V V V (Zj V Wi V V ⟨V, V⟩) ?_
       refine Zu 81 V V V V (Zo V Vm V V ⟨V, V⟩) ?_
       refine Zu 82 V V V V (Zd V V ⟨V, V⟩) ?_
       refine Zu 83 V V V V (Yd V te_35 V (.seq _ _) V V (by first | exact hcz | exact hcs) ⟨V, V⟩) ?_
       refine Zu 84 V V V V (Zj V tf_77_2 V V ⟨V, V⟩) ?_
       refine Zu 85 V V V V (Zo V ta_68 V V ⟨V, V⟩) ?_
       refine Zu 86 V V V V (Zj V Wu V V ⟨V, V⟩) ?_
       refine Zu 87 V V V V (Zo V Xa V V ⟨V, V⟩) ?_
       refine Zu 88 V V V V (Yd V te_68 V (.seq _ _) V V (by first | exact hcz | exact hcs) ⟨V, V⟩) ?_
       refine Zu 89 V V V V (Zo V Xb V V ⟨V, V⟩) ?_
       refine Zu 90 V V V V (Zj V Vb V V ⟨V, V⟩) ?_
       refine Zu 91 V V V V (Zo V Xb V V ⟨V, V⟩) ?_
       refine Xi 92 V V V V (fun _ q => op_sneq V V V q) ?_; intro c92 h92
       refine Zm 93 V V (Zn V V V ⟨V, V⟩) ?_
       show BoolQ _ _ _ _ _ _
       refine Ud V ?_ by5 by3
       first | (simp_all; done) | (simp_all; omega) | grind
      skip
      refine Zf 80 V V V V (Zf 81 V V V V (Zf 82 V V V V (Zf 83 V V V V (Zf 84 V V V V (Zf 85 V V V V (Zf 86 V V V V (Zf 87 V V V V (Zf 88 V V V V (Zf 89 V V V V (Zf 90 V V V V (Zf 91 V V V V ?_)))))))))))
      refine Zf 92 V V V V (Zm 93 V V (Zn V V V ⟨V, V⟩) ?_)
      show BoolQ _ _ _ _ _ _
      refine Ud V ?_ by5 by3
      first | (simp_all; done) | (simp_all; omega) | grind
     skip
     refine Zf 68 V V V V (Zf 69 V V V V (Zf 70 V V V V (Zf 71 V V V V (Zf 72 V V V V (Zf 73 V V V V (Zf 74 V V V V (Zf 75 V V V V (Zf 76 V V V V (Zf 77 V V V V (Zm 78 V V (Zn V V V ⟨V, V⟩) ?_))))))))))
     refine Zm 79 V V (Zd V V ⟨V, V⟩) ?_
     refine Zf 80 V V V V (Zf 81 V V V V (Zf 82 V V V V (Zf 83 V V V V (Zf 84 V V V V (Zf 85 V V V V (Zf 86 V V V V (Zf 87 V V V V (Zf 88 V V V V (Zf 89 V V V V (Zf 90 V V V V (Zf 91 V V V V ?_)))))))))))
     refine Zf 92 V V V V (Zm 93 V V (Zn V V V ⟨V, V⟩) ?_)
     show BoolQ _ _ _ _ _ _
     refine Ud V ?_ by5 by3
     first | (simp_all; done) | (simp_all; omega) | grind
    skip
    refine Zf 63 V V V V (Zf 64 V V V V (Zf 65 V V V V (Zm 66 V V (Zn V V V ⟨V, V⟩) ?_)))
    refine Zm 67 V V (Zd V V ⟨V, V⟩) ?_
    refine Zf 68 V V V V (Zf 69 V V V V (Zf 70 V V V V (Zf 71 V V V V (Zf 72 V V V V (Zf 73 V V V V (Zf 74 V V V V (Zf 75 V V V V (Zf 76 V V V V (Zf 77 V V V V (Zm 78 V V (Zn V V V ⟨V, V⟩) ?_))))))))))
    refine Zm 79 V V (Zd V V ⟨V, V⟩) ?_
    refine Zf 80 V V V V (Zf 81 V V V V (Zf 82 V V V V (Zf 83 V V V V (Zf 84 V V V V (Zf 85 V V V V (Zf 86 V V V V (Zf 87 V V V V (Zf 88 V V V V (Zf 89 V V V V (Zf 90 V V V V (Zf 91 V V V V ?_)))))))))))
    refine Zf 92 V V V V (Zm 93 V V (Zn V V V ⟨V, V⟩) ?_)
    show BoolQ _ _ _ _ _ _
    refine Ud V ?_ by5 by3
    first | (simp_all; done) | (simp_all; omega) | grind
   skip
   refine Zf 57 V V V V (Zf 58 V V V V (Zf 59 V V V V (Zf 60 V V V V (Zm 61 V V (Zn V V V ⟨V, V⟩) ?_))))
   refine Zm 62 V V (Zd V V ⟨V, V⟩) ?_
   refine Zf 63 V V V V (Zf 64 V V V V (Zf 65 V V V V (Zm 66 V V (Zn V V V ⟨V, V⟩) ?_)))
   refine Zm 67 V V (Zd V V ⟨V, V⟩) ?_
   refine Zf 68 V V V V (Zf 69 V V V V (Zf 70 V V V V (Zf 71 V V V V (Zf 72 V V V V (Zf 73 V V V V (Zf 74 V V V V (Zf 75 V V V V (Zf 76 V V V V (Zf 77 V V V V (Zm 78 V V (Zn V V V ⟨V, V⟩) ?_))))))))))
   refine Zm 79 V V (Zd V V ⟨V, V⟩) ?_
   refine Zf 80 V V V V (Zf 81 V V V V (Zf 82 V V V V (Zf 83 V V V V (Zf 84 V V V V (Zf 85 V V V V (Zf 86 V V V V (Zf 87 V V V V (Zf 88 V V V V (Zf 89 V V V V (Zf 90 V V V V (Zf 91 V V V V ?_)))))))))))
   refine Zf 92 V V V V (Zm 93 V V (Zn V V V ⟨V, V⟩) ?_)
   show BoolQ _ _ _ _ _ _
   refine Ud V ?_ by5 by3
   first | (simp_all; done) | (simp_all; omega) | grind
  intro c93 h93
  refine Zb ?_
  rcases Zi h93 with ⟨rfl, g93⟩ | ⟨rfl, g93⟩
  ·exact absurd hk g93
  exact Zt V (Zg (Zc (Za 8 V V V (Ze V V (Vs (Zb (Ya (Yh V V (Vz _) (Vu _) ⟨⟨false, by simp, V⟩, V⟩))))))))
 exact absurd g14 (by decide)
theorem Holds2_go (v : En) (gs : List Pr) (i : Nat) (c : ByteArray) (j : Nat) (z : Cl) (hj : classI v c = j) (hz : v.cl[j]? = some z) (x : Pf) (p : Pr) (hs : z.su[i]? = some p.c) (q : Prop) (HX : BCall Tryz.prog 14 [.agg v.cells, .seq 5 (Pr.cellss gs), .agg x.cells, .agg (Pr.mk c p.t).cells] q) : BCall Tryz.prog 14 [.agg v.cells, .seq 5 (Pr.cellss gs), .agg (Pf.mk 2 i c [x]).cells, .agg p.cells] q := by
 have H := tClass_c v c
 rw [hj, show decide ((0 : Int) ≤ (j : Int)) = true from decide_eq_true (by omega), show max (j : Int) 0 = j by omega] at H
 clear hj
 have hcz := Cl.cellss_get hz
 have hcs := strs_get hs
 have hjl := Vf hz
 have hsl := Vf hs
 obtain ⟨pc, ⟨pk, ps, pn, pl⟩⟩ := p
 obtain ⟨da, cl, ins⟩ := v
 have hcl := Cl.cellss_len cl
 obtain ⟨ys, yv, ysu, yms, yds, yp⟩ := z
 have hls := Xt ysu
 obtain ⟨xk, xn, xc, xl⟩ := x
 simp only [En.cells, Pf.cells, Pf.cellss, Pr.cells, Ty.cells, Cl.cells, Cl.su, En.cl, Pr.c, Pr.t] at *
 refine Zw Tryz.func14 V (by kernel_rfl) V (Uf V) ?_
 refine Yf (Zg (Zc (Za 4 V V V (Ys (cs' := [_, _, _]) V V V V (Za 5 V V V (Ys (cs' := [_]) V V V V (Za 6 V V V (Ys (cs' := [_, _, _, _]) V V V V (Za 7 V V V (Ys (cs' := [_, _, _, _, _]) V V V V (Za 8 V V V (Ze V V (Vs (Zb (Zg (Zg (Zc (Za 11 V V V (Zj V tf_30_0 V V (Za 12 V V V (Zo V Xa V V (Vs (Zb (Zz (Zg (Zc (Za 14 V V V (Yr V V V ?_)))))))))))))))))))))))))))); intro c14 h14
 refine Za 13 V V V (Ze V V (Vs (Zb ?_)))
 rcases Zi h14 with ⟨rfl, g14⟩ | ⟨rfl, g14⟩
 ·refine Zr V (Zg (Zc (Za 46 V V V (Yr V V V ?_)))); intro c46 h46
  refine Za 45 V V V (Ze V V (Vs (Zb ?_)))
  rcases Zi h46 with ⟨rfl, g46⟩ | ⟨rfl, g46⟩
  ·exact absurd V g46
  refine Zt V (Zg (Zc (Za 48 V V V (Yc (cs' := [_, _, _]) V Xw V V V (Za 49 V V V (Zj V tf_30_2 V V (Za 50 V V V (Zo V Xb V V (Za 51 V V V (Ym (xs := [.tmp 48, .tmp 50]) V V (H) by1 ?_))))))))))
  refine Za 47 V V V (Zd V V (Za 52 V V V (Yv V V V (Za 53 V V V (Yv V V V (Za 9 V V V (Ze V V (Za 10 V V V (Ze V V (Vs (Zb (Zg (Zg (Vk 93 (False) Wo V ?_ _ _ V ?_))))))))))))))
  ·skip
   refine Zm 54 V V (Zd V V ⟨V, V⟩) ?_
   refine Wd 55 V V (fun _ q => Xr V V q) ?_; intro c55 h55
   try replace h55 := nott h55 h53
   refine Zm 56 V V (Zd V V ⟨V, V⟩) ?_
   rcases Zi h55 with ⟨rfl, g55⟩ | ⟨rfl, g55⟩
   ·skip
    refine Zu 57 V V V V (Zj V tf_30_3 V V ⟨V, V⟩) ?_
    refine Zu 58 V V V V (Zo V ta_28 V V ⟨V, V⟩) ?_
    refine Zu 59 V V V V (Yy V tu_28 V (.seq _ _) (fun _ => ⟨V, V⟩)) ?_
    refine Xi 60 V V V V (fun _ q => Xq V V V q) ?_; intro c60 h60
    refine Zm 61 V V (Zn V V V ⟨V, V⟩) ?_
    refine Zm 62 V V (Zd V V ⟨V, V⟩) ?_
    rcases Zi h60 with ⟨rfl, g60⟩ | ⟨rfl, g60⟩
    ·skip
     refine Zu 63 V V V V (Zj V Wu V V ⟨V, V⟩) ?_
     refine Zu 64 V V V V (Zo V Xa V V ⟨V, V⟩) ?_
     refine Xi 65 V V V V (fun _ q => Yu V V V q) ?_; intro c65 h65
     refine Zm 66 V V (Zn V V V ⟨V, V⟩) ?_
     refine Zm 67 V V (Zd V V ⟨V, V⟩) ?_
     rcases Zi h65 with ⟨rfl, g65⟩ | ⟨rfl, g65⟩
     ·skip
      refine Zu 68 V V V V (Zj V Wu V V ⟨V, V⟩) ?_
      refine Zu 69 V V V V (Zo V Xa V V ⟨V, V⟩) ?_
      refine Zu 70 V V V V (Zj V Wi V V ⟨V, V⟩) ?_
      refine Zu 71 V V V V (Zo V Vm V V ⟨V, V⟩) ?_
      refine Zu 72 V V V V (Zd V V ⟨V, V⟩) ?_
      refine Zu 73 V V V V (Yd V te_35 V (.seq _ _) V V (by first | exact hcz | exact hcs) ⟨V, V⟩) ?_
      refine Zu 74 V V V V (Zj V tf_77_2 V V ⟨V, V⟩) ?_
      refine Zu 75 V V V V (Zo V ta_68 V V ⟨V, V⟩) ?_
      refine Zu 76 V V V V (Yy V tu_68 V (.seq _ _) (fun _ => ⟨V, V⟩)) ?_
      refine Xi 77 V V V V (fun _ q => Wa V V V q) ?_; intro c77 h77
      refine Zm 78 V V (Zn V V V ⟨V, V⟩) ?_
      refine Zm 79 V V (Zd V V ⟨V, V⟩) ?_
      rcases Zi h77 with ⟨rfl, g77⟩ | ⟨rfl, g77⟩
      ·skip
       refine Zu 80 V V V V (Zj V Wi V V ⟨V, V⟩) ?_
       refine Zu 81 V V V V (Zo V Vm V V ⟨V, V⟩) ?_
       refine Zu 82 V V V V (Zd V V ⟨V, V⟩) ?_
       refine Zu 83 V V V V (Yd V te_35 V (.seq _ _) V V (by first | exact hcz | exact hcs) ⟨V, V⟩) ?_
       refine Zu 84 V V V V (Zj V tf_77_2 V V ⟨V, V⟩) ?_
       refine Zu 85 V V V V (Zo V ta_68 V V ⟨V, V⟩) ?_
       refine Zu 86 V V V V (Zj V Wu V V ⟨V, V⟩) ?_
       refine Zu 87 V V V V (Zo V Xa V V ⟨V, V⟩) ?_
       refine Zu 88 V V V V (Yd V te_68 V (.seq _ _) V V (by first | exact hcz | exact hcs) ⟨V, V⟩) ?_
       refine Zu 89 V V V V (Zo V Xb V V ⟨V, V⟩) ?_
       refine Zu 90 V V V V (Zj V Vb V V ⟨V, V⟩) ?_
       refine Zu 91 V V V V (Zo V Xb V V ⟨V, V⟩) ?_
       refine Xi 92 V V V V (fun _ q => op_sneq V V V q) ?_; intro c92 h92
       refine Zm 93 V V (Zn V V V ⟨V, V⟩) ?_
       show BoolQ _ _ _ _ _ _
       refine Ud V ?_ by5 by3
       first | (simp_all; done) | (simp_all; omega) | grind
      skip
      refine Zf 80 V V V V (Zf 81 V V V V (Zf 82 V V V V (Zf 83 V V V V (Zf 84 V V V V (Zf 85 V V V V (Zf 86 V V V V (Zf 87 V V V V (Zf 88 V V V V (Zf 89 V V V V (Zf 90 V V V V (Zf 91 V V V V ?_)))))))))))
      refine Zf 92 V V V V (Zm 93 V V (Zn V V V ⟨V, V⟩) ?_)
      show BoolQ _ _ _ _ _ _
      refine Ud V ?_ by5 by3
      first | (simp_all; done) | (simp_all; omega) | grind
     skip
     refine Zf 68 V V V V (Zf 69 V V V V (Zf 70 V V V V (Zf 71 V V V V (Zf 72 V V V V (Zf 73 V V V V (Zf 74 V V V V (Zf 75 V V V V (Zf 76 V V V V (Zf 77 V V V V (Zm 78 V V (Zn V V V ⟨V, V⟩) ?_))))))))))
     refine Zm 79 V V (Zd V V ⟨V, V⟩) ?_
     refine Zf 80 V V V V (Zf 81 V V V V (Zf 82 V V V V (Zf 83 V V V V (Zf 84 V V V V (Zf 85 V V V V (Zf 86 V V V V (Zf 87 V V V V (Zf 88 V V V V (Zf 89 V V V V (Zf 90 V V V V (Zf 91 V V V V ?_)))))))))))
     refine Zf 92 V V V V (Zm 93 V V (Zn V V V ⟨V, V⟩) ?_)
     show BoolQ _ _ _ _ _ _
     refine Ud V ?_ by5 by3
     first | (simp_all; done) | (simp_all; omega) | grind
    skip
    refine Zf 63 V V V V (Zf 64 V V V V (Zf 65 V V V V (Zm 66 V V (Zn V V V ⟨V, V⟩) ?_)))
    refine Zm 67 V V (Zd V V ⟨V, V⟩) ?_
    refine Zf 68 V V V V (Zf 69 V V V V (Zf 70 V V V V (Zf 71 V V V V (Zf 72 V V V V (Zf 73 V V V V (Zf 74 V V V V (Zf 75 V V V V (Zf 76 V V V V (Zf 77 V V V V (Zm 78 V V (Zn V V V ⟨V, V⟩) ?_))))))))))
    refine Zm 79 V V (Zd V V ⟨V, V⟩) ?_
    refine Zf 80 V V V V (Zf 81 V V V V (Zf 82 V V V V (Zf 83 V V V V (Zf 84 V V V V (Zf 85 V V V V (Zf 86 V V V V (Zf 87 V V V V (Zf 88 V V V V (Zf 89 V V V V (Zf 90 V V V V (Zf 91 V V V V ?_)))))))))))
    refine Zf 92 V V V V (Zm 93 V V (Zn V V V ⟨V, V⟩) ?_)
    show BoolQ _ _ _ _ _ _
    refine Ud V ?_ by5 by3
    first | (simp_all; done) | (simp_all; omega) | grind
   skip
   refine Zf 57 V V V V (Zf 58 V V V V (Zf 59 V V V V (Zf 60 V V V V (Zm 61 V V (Zn V V V ⟨V, V⟩) ?_))))
   refine Zm 62 V V (Zd V V ⟨V, V⟩) ?_
   refine Zf 63 V V V V (Zf 64 V V V V (Zf 65 V V V V (Zm 66 V V (Zn V V V ⟨V, V⟩) ?_)))
   refine Zm 67 V V (Zd V V ⟨V, V⟩) ?_
   refine Zf 68 V V V V (Zf 69 V V V V (Zf 70 V V V V (Zf 71 V V V V (Zf 72 V V V V (Zf 73 V V V V (Zf 74 V V V V (Zf 75 V V V V (Zf 76 V V V V (Zf 77 V V V V (Zm 78 V V (Zn V V V ⟨V, V⟩) ?_))))))))))
   refine Zm 79 V V (Zd V V ⟨V, V⟩) ?_
   refine Zf 80 V V V V (Zf 81 V V V V (Zf 82 V V V V (Zf 83 V V V V (Zf 84 V V V V (Zf 85 V V V V (Zf 86 V V V V (Zf 87 V V V V (Zf 88 V V V V (Zf 89 V V V V (Zf 90 V V V V (Zf 91 V V V V ?_)))))))))))
   refine Zf 92 V V V V (Zm 93 V V (Zn V V V ⟨V, V⟩) ?_)
   show BoolQ _ _ _ _ _ _
   refine Ud V ?_ by5 by3
   first | (simp_all; done) | (simp_all; omega) | grind
  intro c93 h93
  refine Zb ?_
  rcases Zi h93 with ⟨rfl, g93⟩ | ⟨rfl, g93⟩
  ·refine Zr V (Zv (Zb (Zg (Vl Wo V (Zm 94 V V (Yc (cs' := [_, _, _]) V Xw V V V ⟨V, V⟩) ?_)))))
   refine Zm 95 V V (Zo V ta_22 V V ⟨V, V⟩) ?_
   refine Zm 96 V V (Zj V tf_30_3 V V ⟨V, V⟩) ?_
   refine Zm 97 V V (Zo V ta_28 V V ⟨V, V⟩) ?_
   refine Zm 98 V V (Yd V te_28 V (.seq _ _) V V (V) ⟨V, V⟩) ?_
   refine Zm 99 V V (Yc (cs' := [_, _, _, _]) V Wm V V V ⟨V, V⟩) ?_
   refine Zm 100 V V (Zj V tf_30_2 V V ⟨V, V⟩) ?_
   refine Zm 101 V V (Zo V Xb V V ⟨V, V⟩) ?_
   refine Zm 102 V V (Zj V Wk V V ⟨V, V⟩) ?_
   refine Zm 103 V V (Yc (cs' := [_, _, _, _]) V Xz V V V ⟨V, V⟩) ?_
   refine Zm 104 V V (Yl (ns := [0, 1]) (xs := [.tmp 101, .tmp 103]) V tz_27 V tfl_27 V V V V ⟨V, V⟩) ?_
   refine Wd 105 V V (fun _ q => Yg (xs := [.tmp 94, .tmp 95, .tmp 99, .tmp 104]) V V (HX) by1 q) ?_; intro c105 h105
   refine Zm 8 V V (Ze V V ⟨V, V⟩) ?_
   show AGo _ _ _ _ _ _ _
   exact Zb (Ya (Yh V V (Vz _) (Vu _) ⟨⟨_, h105, V⟩, V⟩))
  exact False.elim g93
 exact absurd g14 (by decide)
theorem bsame {f : FuncId} {vs : List AV} {p q : Prop} (h : BCall Tryz.prog f vs p) (e : p ↔ q) : BCall Tryz.prog f vs q := by rw [← propext e]; exact h
theorem Holds3_out (v : En) (gs : List Pr) (n : Int) (c : ByteArray) (hn : n < 0 ∨ v.ins.length ≤ n) (ks : List Pf) (p : Pr) : BCall Tryz.prog 14 [.agg v.cells, .seq 5 (Pr.cellss gs), .agg (Pf.mk 3 n c ks).cells, .agg p.cells] False := by
 obtain ⟨pc, ⟨pk, ps, pn, pl⟩⟩ := p
 obtain ⟨da, cl, ins⟩ := v
 have hil := In.cellss_len ins
 simp only [En.cells, Pf.cells, Pr.cells, Ty.cells, En.ins] at *
 refine Zw Tryz.func14 V (by kernel_rfl) V (Uf V) ?_
 refine Yf (Zg (Zc (Za 4 V V V (Ys (cs' := [_, _, _]) V V V V (Za 5 V V V (Ys (cs' := [_]) V V V V (Za 6 V V V (Ys (cs' := [_, _, _, _]) V V V V (Za 7 V V V (Ys (cs' := [_, _, _, _, _]) V V V V (Za 8 V V V (Ze V V (Vs (Zb (Zg (Zg (Zc (Za 11 V V V (Zj V tf_30_0 V V (Za 12 V V V (Zo V Xa V V (Vs (Zb (Zz (Zg (Zc (Za 14 V V V (Yr V V V ?_)))))))))))))))))))))))))))); intro c14 h14
 refine Za 13 V V V (Ze V V (Vs (Zb ?_)))
 rcases Zi h14 with ⟨rfl, g14⟩ | ⟨rfl, g14⟩
 ·refine Zr V (Zg (Zc (Za 46 V V V (Yr V V V ?_)))); intro c46 h46
  refine Za 45 V V V (Ze V V (Vs (Zb ?_)))
  rcases Zi h46 with ⟨rfl, g46⟩ | ⟨rfl, g46⟩
  ·refine Zr V (Zg (Zc (Za 107 V V V (Yr V V V ?_)))); intro c107 h107
   refine Za 106 V V V (Ze V V (Vs (Zb ?_)))
   rcases Zi h107 with ⟨rfl, g107⟩ | ⟨rfl, g107⟩
   ·exact absurd V g107
   refine Zt V (Zg (Zg (Vk 171 (True) Wo V ?_ _ _ V ?_)))
   ·skip
    refine Zm 108 V V (Zj V tf_30_2 V V ⟨V, V⟩) ?_
    refine Zm 109 V V (Zo V Xb V V ⟨V, V⟩) ?_
    refine Wd 110 V V (fun _ q => op_sneq V V V q) ?_; intro c110 h110
    refine Zm 111 V V (Zd V V ⟨V, V⟩) ?_
    rcases Zi h110 with ⟨rfl, g110⟩ | ⟨rfl, g110⟩
    ·skip
     refine Zu 112 V V V V (Zj V Wu V V ⟨V, V⟩) ?_
     refine Zu 113 V V V V (Zo V Xa V V ⟨V, V⟩) ?_
     refine Xi 114 V V V V (fun _ q => Yu V V V q) ?_; intro c114 h114
     refine Zm 115 V V (Zn V V V ⟨V, V⟩) ?_
     refine Zm 116 V V (Zd V V ⟨V, V⟩) ?_
     rcases Zi h114 with ⟨rfl, g114⟩ | ⟨rfl, g114⟩
     ·skip
      refine Zu 117 V V V V (Zj V Wu V V ⟨V, V⟩) ?_
      refine Zu 118 V V V V (Zo V Xa V V ⟨V, V⟩) ?_
      refine Zu 119 V V V V (Zj V Vc V V ⟨V, V⟩) ?_
      refine Zu 120 V V V V (Zo V ta_36 V V ⟨V, V⟩) ?_
      refine Zu 121 V V V V (Yy V tu_36 V (.seq _ _) (fun _ => ⟨V, V⟩)) ?_
      refine Xi 122 V V V V (fun _ q => Wa V V V q) ?_; intro c122 h122
      refine Zm 123 V V (Zn V V V ⟨V, V⟩) ?_
      refine Zm 124 V V (Zd V V ⟨V, V⟩) ?_
      rcases Zi h122 with ⟨rfl, g122⟩ | ⟨rfl, g122⟩
      ·omega
      skip
      refine Zf 125 V V V V (Zf 126 V V V V (Zf 127 V V V V (Zf 128 V V V V (Zf 129 V V V V (Zf 130 V V V V (Zf 131 V V V V (Zf 132 V V V V (Zf 133 V V V V (Zf 134 V V V V (Zm 135 V V (Zn V V V ⟨V, V⟩) ?_))))))))))
      refine Zm 136 V V (Zd V V ⟨V, V⟩) ?_
      refine Zf 137 V V V V (Zf 138 V V V V (Zf 139 V V V V (Zf 140 V V V V (Zf 141 V V V V (Zf 142 V V V V (Zf 143 V V V V (Zf 144 V V V V (Zf 145 V V V V (Zf 146 V V V V (Zf 147 V V V V (Zf 148 V V V V ?_)))))))))))
      refine Zm 149 V V (Zn V V V ⟨V, V⟩) ?_
      refine Zm 150 V V (Zd V V ⟨V, V⟩) ?_
      refine Zf 151 V V V V (Zf 152 V V V V (Zf 153 V V V V (Zf 154 V V V V (Zm 155 V V (Zn V V V ⟨V, V⟩) ?_))))
      refine Zm 156 V V (Zd V V ⟨V, V⟩) ?_
      refine Zf 157 V V V V (Zf 158 V V V V (Zf 159 V V V V (Zf 160 V V V V (Zf 161 V V V V (Zf 162 V V V V (Zf 163 V V V V (Zf 164 V V V V (Zf 165 V V V V (Zf 166 V V V V (Zf 167 V V V V (Zf 168 V V V V ?_)))))))))))
      refine Zf 169 V V V V (Zf 170 V V V V (Zm 171 V V (Zn V V V ⟨V, V⟩) ?_))
      show BoolQ _ _ _ _ _ _
      refine Ud V ?_ by5 by3
      first | (simp_all; done) | grind
     skip
     refine Zf 117 V V V V (Zf 118 V V V V (Zf 119 V V V V (Zf 120 V V V V (Zf 121 V V V V (Zf 122 V V V V (Zm 123 V V (Zn V V V ⟨V, V⟩) ?_))))))
     refine Zm 124 V V (Zd V V ⟨V, V⟩) ?_
     refine Zf 125 V V V V (Zf 126 V V V V (Zf 127 V V V V (Zf 128 V V V V (Zf 129 V V V V (Zf 130 V V V V (Zf 131 V V V V (Zf 132 V V V V (Zf 133 V V V V (Zf 134 V V V V (Zm 135 V V (Zn V V V ⟨V, V⟩) ?_))))))))))
     refine Zm 136 V V (Zd V V ⟨V, V⟩) ?_
     refine Zf 137 V V V V (Zf 138 V V V V (Zf 139 V V V V (Zf 140 V V V V (Zf 141 V V V V (Zf 142 V V V V (Zf 143 V V V V (Zf 144 V V V V (Zf 145 V V V V (Zf 146 V V V V (Zf 147 V V V V (Zf 148 V V V V ?_)))))))))))
     refine Zm 149 V V (Zn V V V ⟨V, V⟩) ?_
     refine Zm 150 V V (Zd V V ⟨V, V⟩) ?_
     refine Zf 151 V V V V (Zf 152 V V V V (Zf 153 V V V V (Zf 154 V V V V (Zm 155 V V (Zn V V V ⟨V, V⟩) ?_))))
     refine Zm 156 V V (Zd V V ⟨V, V⟩) ?_
     refine Zf 157 V V V V (Zf 158 V V V V (Zf 159 V V V V (Zf 160 V V V V (Zf 161 V V V V (Zf 162 V V V V (Zf 163 V V V V (Zf 164 V V V V (Zf 165 V V V V (Zf 166 V V V V (Zf 167 V V V V (Zf 168 V V V V ?_)))))))))))
     refine Zf 169 V V V V (Zf 170 V V V V (Zm 171 V V (Zn V V V ⟨V, V⟩) ?_))
     show BoolQ _ _ _ _ _ _
     refine Ud V ?_ by5 by3
     first | (simp_all; done) | grind
    skip
    refine Zf 112 V V V V (Zf 113 V V V V (Zf 114 V V V V (Zm 115 V V (Zn V V V ⟨V, V⟩) ?_)))
    refine Zm 116 V V (Zd V V ⟨V, V⟩) ?_
    refine Zf 117 V V V V (Zf 118 V V V V (Zf 119 V V V V (Zf 120 V V V V (Zf 121 V V V V (Zf 122 V V V V (Zm 123 V V (Zn V V V ⟨V, V⟩) ?_))))))
    refine Zm 124 V V (Zd V V ⟨V, V⟩) ?_
    refine Zf 125 V V V V (Zf 126 V V V V (Zf 127 V V V V (Zf 128 V V V V (Zf 129 V V V V (Zf 130 V V V V (Zf 131 V V V V (Zf 132 V V V V (Zf 133 V V V V (Zf 134 V V V V (Zm 135 V V (Zn V V V ⟨V, V⟩) ?_))))))))))
    refine Zm 136 V V (Zd V V ⟨V, V⟩) ?_
    refine Zf 137 V V V V (Zf 138 V V V V (Zf 139 V V V V (Zf 140 V V V V (Zf 141 V V V V (Zf 142 V V V V (Zf 143 V V V V (Zf 144 V V V V (Zf 145 V V V V (Zf 146 V V V V (Zf 147 V V V V (Zf 148 V V V V ?_)))))))))))
    refine Zm 149 V V (Zn V V V ⟨V, V⟩) ?_
    refine Zm 150 V V (Zd V V ⟨V, V⟩) ?_
    refine Zf 151 V V V V (Zf 152 V V V V (Zf 153 V V V V (Zf 154 V V V V (Zm 155 V V (Zn V V V ⟨V, V⟩) ?_))))
    refine Zm 156 V V (Zd V V ⟨V, V⟩) ?_
    refine Zf 157 V V V V (Zf 158 V V V V (Zf 159 V V V V (Zf 160 V V V V (Zf 161 V V V V (Zf 162 V V V V (Zf 163 V V V V (Zf 164 V V V V (Zf 165 V V V V (Zf 166 V V V V (Zf 167 V V V V (Zf 168 V V V V ?_)))))))))))
    refine Zf 169 V V V V (Zf 170 V V V V (Zm 171 V V (Zn V V V ⟨V, V⟩) ?_))
    show BoolQ _ _ _ _ _ _
    refine Ud V ?_ by5 by3
    first | (simp_all; done) | grind
   intro c171 h171
   refine Zb ?_
   rcases Zi h171 with ⟨rfl, g171⟩ | ⟨rfl, g171⟩
   ·exact absurd trivial g171
   exact Zt V (Zg (Zc (Za 8 V V V (Ze V V (Vs (Zb (Ya (Yh V V (Vz _) (Vu _) ⟨⟨false, by simp, V⟩, V⟩))))))))
  exact absurd g46 (by decide)
 exact absurd g14 (by decide)
theorem Holds3_no (v : En) (gs : List Pr) (i : Nat) (c : ByteArray) (y : In) (hy : v.ins[i]? = some y) (ks : List Pf) (p : Pr) (hk : ¬ (c = kE ∧ fitsP y p)) : BCall Tryz.prog 14 [.agg v.cells, .seq 5 (Pr.cellss gs), .agg (Pf.mk 3 i c ks).cells, .agg p.cells] False := by
 have hcy := In.cellss_get hy
 have hyl := Vf hy
 obtain ⟨pc, ⟨pk, ps, pn, pl⟩⟩ := p
 obtain ⟨da, cl, ins⟩ := v
 have hil := In.cellss_len ins
 obtain ⟨yc, ⟨yk, ys, yn, yl⟩, ycx, ybs, yp⟩ := y
 have hl1 := Ty.cellss_len yl
 have hl2 := Ty.cellss_len pl
 unfold fitsP at hk
 simp only [En.cells, Pf.cells, Pr.cells, Ty.cells, In.cells, En.ins, In.c, In.hd, Pr.c, Pr.t, Ty.kind, Ty.name, Ty.kids, List.cons_append, List.nil_append] at *
 refine Zw Tryz.func14 V (by kernel_rfl) V (Uf V) ?_
 refine Yf (Zg (Zc (Za 4 V V V (Ys (cs' := [_, _, _]) V V V V (Za 5 V V V (Ys (cs' := [_]) V V V V (Za 6 V V V (Ys (cs' := [_, _, _, _]) V V V V (Za 7 V V V (Ys (cs' := [_, _, _, _, _]) V V V V (Za 8 V V V (Ze V V (Vs (Zb (Zg (Zg (Zc (Za 11 V V V (Zj V tf_30_0 V V (Za 12 V V V (Zo V Xa V V (Vs (Zb (Zz (Zg (Zc (Za 14 V V V (Yr V V V ?_)))))))))))))))))))))))))))); intro c14 h14
 refine Za 13 V V V (Ze V V (Vs (Zb ?_)))
 rcases Zi h14 with ⟨rfl, g14⟩ | ⟨rfl, g14⟩
 ·refine Zr V (Zg (Zc (Za 46 V V V (Yr V V V ?_)))); intro c46 h46
  refine Za 45 V V V (Ze V V (Vs (Zb ?_)))
  rcases Zi h46 with ⟨rfl, g46⟩ | ⟨rfl, g46⟩
  ·refine Zr V (Zg (Zc (Za 107 V V V (Yr V V V ?_)))); intro c107 h107
   refine Za 106 V V V (Ze V V (Vs (Zb ?_)))
   rcases Zi h107 with ⟨rfl, g107⟩ | ⟨rfl, g107⟩
   ·exact absurd V g107
   refine Zt V (Zg (Zg (Vk 171 (¬ (c = kE ∧ yc = pc ∧ pk = 3 ∧ ys = ps ∧ yl.length = pl.length)) Wo V ?_ _ _ V ?_)))
   ·skip
    refine Zm 108 V V (Zj V tf_30_2 V V ⟨V, V⟩) ?_
    refine Zm 109 V V (Zo V Xb V V ⟨V, V⟩) ?_
    refine Wd 110 V V (fun _ q => op_sneq V V V q) ?_; intro c110 h110
    refine Zm 111 V V (Zd V V ⟨V, V⟩) ?_
    rcases Zi h110 with ⟨rfl, g110⟩ | ⟨rfl, g110⟩
    ·skip
     refine Zu 112 V V V V (Zj V Wu V V ⟨V, V⟩) ?_
     refine Zu 113 V V V V (Zo V Xa V V ⟨V, V⟩) ?_
     refine Xi 114 V V V V (fun _ q => Yu V V V q) ?_; intro c114 h114
     refine Zm 115 V V (Zn V V V ⟨V, V⟩) ?_
     refine Zm 116 V V (Zd V V ⟨V, V⟩) ?_
     rcases Zi h114 with ⟨rfl, g114⟩ | ⟨rfl, g114⟩
     ·skip
      refine Zu 117 V V V V (Zj V Wu V V ⟨V, V⟩) ?_
      refine Zu 118 V V V V (Zo V Xa V V ⟨V, V⟩) ?_
      refine Zu 119 V V V V (Zj V Vc V V ⟨V, V⟩) ?_
      refine Zu 120 V V V V (Zo V ta_36 V V ⟨V, V⟩) ?_
      refine Zu 121 V V V V (Yy V tu_36 V (.seq _ _) (fun _ => ⟨V, V⟩)) ?_
      refine Xi 122 V V V V (fun _ q => Wa V V V q) ?_; intro c122 h122
      refine Zm 123 V V (Zn V V V ⟨V, V⟩) ?_
      refine Zm 124 V V (Zd V V ⟨V, V⟩) ?_
      rcases Zi h122 with ⟨rfl, g122⟩ | ⟨rfl, g122⟩
      ·skip
       refine Zu 125 V V V V (Zj V Vc V V ⟨V, V⟩) ?_
       refine Zu 126 V V V V (Zo V ta_36 V V ⟨V, V⟩) ?_
       refine Zu 127 V V V V (Zj V Wu V V ⟨V, V⟩) ?_
       refine Zu 128 V V V V (Zo V Xa V V ⟨V, V⟩) ?_
       refine Zu 129 V V V V (Yd V te_36 V (.seq _ _) V V (hcy) ⟨V, V⟩) ?_
       refine Zu 130 V V V V (Zj V tf_73_0 V V ⟨V, V⟩) ?_
       refine Zu 131 V V V V (Zo V Xb V V ⟨V, V⟩) ?_
       refine Zu 132 V V V V (Zj V Vb V V ⟨V, V⟩) ?_
       refine Zu 133 V V V V (Zo V Xb V V ⟨V, V⟩) ?_
       refine Xi 134 V V V V (fun _ q => op_sneq V V V q) ?_; intro c134 h134
       refine Zm 135 V V (Zn V V V ⟨V, V⟩) ?_
       refine Zm 136 V V (Zd V V ⟨V, V⟩) ?_
       rcases Zi h134 with ⟨rfl, g134⟩ | ⟨rfl, g134⟩
       ·skip
        refine Zu 137 V V V V (Zj V Vc V V ⟨V, V⟩) ?_
        refine Zu 138 V V V V (Zo V ta_36 V V ⟨V, V⟩) ?_
        refine Zu 139 V V V V (Zj V Wu V V ⟨V, V⟩) ?_
        refine Zu 140 V V V V (Zo V Xa V V ⟨V, V⟩) ?_
        refine Zu 141 V V V V (Yd V te_36 V (.seq _ _) V V (hcy) ⟨V, V⟩) ?_
        refine Zu 142 V V V V (Zj V Vd V V ⟨V, V⟩) ?_
        refine Zu 143 V V V V (Zj V Wp V V ⟨V, V⟩) ?_
        refine Zu 144 V V V V (Zo V Xb V V ⟨V, V⟩) ?_
        refine Zu 145 V V V V (Zj V Wk V V ⟨V, V⟩) ?_
        refine Zu 146 V V V V (Zj V Wp V V ⟨V, V⟩) ?_
        refine Zu 147 V V V V (Zo V Xb V V ⟨V, V⟩) ?_
        refine Xi 148 V V V V (fun _ q => op_sneq V V V q) ?_; intro c148 h148
        refine Zm 149 V V (Zn V V V ⟨V, V⟩) ?_
        refine Zm 150 V V (Zd V V ⟨V, V⟩) ?_
        rcases Zi h148 with ⟨rfl, g148⟩ | ⟨rfl, g148⟩
        ·skip
         refine Zu 151 V V V V (Zj V Wk V V ⟨V, V⟩) ?_
         refine Zu 152 V V V V (Zj V tf_25_0 V V ⟨V, V⟩) ?_
         refine Zu 153 V V V V (Zo V Xa V V ⟨V, V⟩) ?_
         refine Xi 154 V V V V (fun _ q => Xq V V V q) ?_; intro c154 h154
         refine Zm 155 V V (Zn V V V ⟨V, V⟩) ?_
         refine Zm 156 V V (Zd V V ⟨V, V⟩) ?_
         rcases Zi h154 with ⟨rfl, g154⟩ | ⟨rfl, g154⟩
         ·skip
          refine Zu 157 V V V V (Zj V Wk V V ⟨V, V⟩) ?_
          refine Zu 158 V V V V (Zj V Wc V V ⟨V, V⟩) ?_
          refine Zu 159 V V V V (Zo V Vg V V ⟨V, V⟩) ?_
          refine Zu 160 V V V V (Yy V tu_23 V (.seq _ _) (fun _ => ⟨V, V⟩)) ?_
          refine Zu 161 V V V V (Zj V Vc V V ⟨V, V⟩) ?_
          refine Zu 162 V V V V (Zo V ta_36 V V ⟨V, V⟩) ?_
          refine Zu 163 V V V V (Zj V Wu V V ⟨V, V⟩) ?_
          refine Zu 164 V V V V (Zo V Xa V V ⟨V, V⟩) ?_
          refine Zu 165 V V V V (Yd V te_36 V (.seq _ _) V V (hcy) ⟨V, V⟩) ?_
          refine Zu 166 V V V V (Zj V Vd V V ⟨V, V⟩) ?_
          refine Zu 167 V V V V (Zj V Wc V V ⟨V, V⟩) ?_
          refine Zu 168 V V V V (Zo V Vg V V ⟨V, V⟩) ?_
          refine Zu 169 V V V V (Yy V tu_23 V (.seq _ _) (fun _ => ⟨V, V⟩)) ?_
          refine Xi 170 V V V V (fun _ q => Xq V V V q) ?_; intro c170 h170
          refine Zm 171 V V (Zn V V V ⟨V, V⟩) ?_
          show BoolQ _ _ _ _ _ _
          refine Ud V ?_ by5 by3
          first | (simp_all; done) | (simp_all; omega) | grind
         skip
         refine Zf 157 V V V V (Zf 158 V V V V (Zf 159 V V V V (Zf 160 V V V V (Zf 161 V V V V (Zf 162 V V V V (Zf 163 V V V V (Zf 164 V V V V (Zf 165 V V V V (Zf 166 V V V V (Zf 167 V V V V (Zf 168 V V V V ?_)))))))))))
         refine Zf 169 V V V V (Zf 170 V V V V (Zm 171 V V (Zn V V V ⟨V, V⟩) ?_))
         show BoolQ _ _ _ _ _ _
         refine Ud V ?_ by5 by3
         first | (simp_all; done) | (simp_all; omega) | grind
        skip
        refine Zf 151 V V V V (Zf 152 V V V V (Zf 153 V V V V (Zf 154 V V V V (Zm 155 V V (Zn V V V ⟨V, V⟩) ?_))))
        refine Zm 156 V V (Zd V V ⟨V, V⟩) ?_
        refine Zf 157 V V V V (Zf 158 V V V V (Zf 159 V V V V (Zf 160 V V V V (Zf 161 V V V V (Zf 162 V V V V (Zf 163 V V V V (Zf 164 V V V V (Zf 165 V V V V (Zf 166 V V V V (Zf 167 V V V V (Zf 168 V V V V ?_)))))))))))
        refine Zf 169 V V V V (Zf 170 V V V V (Zm 171 V V (Zn V V V ⟨V, V⟩) ?_))
        show BoolQ _ _ _ _ _ _
        refine Ud V ?_ by5 by3
        first | (simp_all; done) | (simp_all; omega) | grind
       skip
       refine Zf 137 V V V V (Zf 138 V V V V (Zf 139 V V V V (Zf 140 V V V V (Zf 141 V V V V (Zf 142 V V V V (Zf 143 V V V V (Zf 144 V V V V (Zf 145 V V V V (Zf 146 V V V V (Zf 147 V V V V (Zf 148 V V V V ?_)))))))))))
       refine Zm 149 V V (Zn V V V ⟨V, V⟩) ?_
       refine Zm 150 V V (Zd V V ⟨V, V⟩) ?_
       refine Zf 151 V V V V (Zf 152 V V V V (Zf 153 V V V V (Zf 154 V V V V (Zm 155 V V (Zn V V V ⟨V, V⟩) ?_))))
       refine Zm 156 V V (Zd V V ⟨V, V⟩) ?_
       refine Zf 157 V V V V (Zf 158 V V V V (Zf 159 V V V V (Zf 160 V V V V (Zf 161 V V V V (Zf 162 V V V V (Zf 163 V V V V (Zf 164 V V V V (Zf 165 V V V V (Zf 166 V V V V (Zf 167 V V V V (Zf 168 V V V V ?_)))))))))))
       refine Zf 169 V V V V (Zf 170 V V V V (Zm 171 V V (Zn V V V ⟨V, V⟩) ?_))
       show BoolQ _ _ _ _ _ _
       refine Ud V ?_ by5 by3
       first | (simp_all; done) | (simp_all; omega) | grind
      skip
      refine Zf 125 V V V V (Zf 126 V V V V (Zf 127 V V V V (Zf 128 V V V V (Zf 129 V V V V (Zf 130 V V V V (Zf 131 V V V V (Zf 132 V V V V (Zf 133 V V V V (Zf 134 V V V V (Zm 135 V V (Zn V V V ⟨V, V⟩) ?_))))))))))
      refine Zm 136 V V (Zd V V ⟨V, V⟩) ?_
      refine Zf 137 V V V V (Zf 138 V V V V (Zf 139 V V V V (Zf 140 V V V V (Zf 141 V V V V (Zf 142 V V V V (Zf 143 V V V V (Zf 144 V V V V (Zf 145 V V V V (Zf 146 V V V V (Zf 147 V V V V (Zf 148 V V V V ?_)))))))))))
      refine Zm 149 V V (Zn V V V ⟨V, V⟩) ?_
      refine Zm 150 V V (Zd V V ⟨V, V⟩) ?_
      refine Zf 151 V V V V (Zf 152 V V V V (Zf 153 V V V V (Zf 154 V V V V (Zm 155 V V (Zn V V V ⟨V, V⟩) ?_))))
      refine Zm 156 V V (Zd V V ⟨V, V⟩) ?_
      refine Zf 157 V V V V (Zf 158 V V V V (Zf 159 V V V V (Zf 160 V V V V (Zf 161 V V V V (Zf 162 V V V V (Zf 163 V V V V (Zf 164 V V V V (Zf 165 V V V V (Zf 166 V V V V (Zf 167 V V V V (Zf 168 V V V V ?_)))))))))))
      refine Zf 169 V V V V (Zf 170 V V V V (Zm 171 V V (Zn V V V ⟨V, V⟩) ?_))
      show BoolQ _ _ _ _ _ _
      refine Ud V ?_ by5 by3
      first | (simp_all; done) | (simp_all; omega) | grind
     skip
     refine Zf 117 V V V V (Zf 118 V V V V (Zf 119 V V V V (Zf 120 V V V V (Zf 121 V V V V (Zf 122 V V V V (Zm 123 V V (Zn V V V ⟨V, V⟩) ?_))))))
     refine Zm 124 V V (Zd V V ⟨V, V⟩) ?_
     refine Zf 125 V V V V (Zf 126 V V V V (Zf 127 V V V V (Zf 128 V V V V (Zf 129 V V V V (Zf 130 V V V V (Zf 131 V V V V (Zf 132 V V V V (Zf 133 V V V V (Zf 134 V V V V (Zm 135 V V (Zn V V V ⟨V, V⟩) ?_))))))))))
     refine Zm 136 V V (Zd V V ⟨V, V⟩) ?_
     refine Zf 137 V V V V (Zf 138 V V V V (Zf 139 V V V V (Zf 140 V V V V (Zf 141 V V V V (Zf 142 V V V V (Zf 143 V V V V (Zf 144 V V V V (Zf 145 V V V V (Zf 146 V V V V (Zf 147 V V V V (Zf 148 V V V V ?_)))))))))))
     refine Zm 149 V V (Zn V V V ⟨V, V⟩) ?_
     refine Zm 150 V V (Zd V V ⟨V, V⟩) ?_
     refine Zf 151 V V V V (Zf 152 V V V V (Zf 153 V V V V (Zf 154 V V V V (Zm 155 V V (Zn V V V ⟨V, V⟩) ?_))))
     refine Zm 156 V V (Zd V V ⟨V, V⟩) ?_
     refine Zf 157 V V V V (Zf 158 V V V V (Zf 159 V V V V (Zf 160 V V V V (Zf 161 V V V V (Zf 162 V V V V (Zf 163 V V V V (Zf 164 V V V V (Zf 165 V V V V (Zf 166 V V V V (Zf 167 V V V V (Zf 168 V V V V ?_)))))))))))
     refine Zf 169 V V V V (Zf 170 V V V V (Zm 171 V V (Zn V V V ⟨V, V⟩) ?_))
     show BoolQ _ _ _ _ _ _
     refine Ud V ?_ by5 by3
     first | (simp_all; done) | (simp_all; omega) | grind
    skip
    refine Zf 112 V V V V (Zf 113 V V V V (Zf 114 V V V V (Zm 115 V V (Zn V V V ⟨V, V⟩) ?_)))
    refine Zm 116 V V (Zd V V ⟨V, V⟩) ?_
    refine Zf 117 V V V V (Zf 118 V V V V (Zf 119 V V V V (Zf 120 V V V V (Zf 121 V V V V (Zf 122 V V V V (Zm 123 V V (Zn V V V ⟨V, V⟩) ?_))))))
    refine Zm 124 V V (Zd V V ⟨V, V⟩) ?_
    refine Zf 125 V V V V (Zf 126 V V V V (Zf 127 V V V V (Zf 128 V V V V (Zf 129 V V V V (Zf 130 V V V V (Zf 131 V V V V (Zf 132 V V V V (Zf 133 V V V V (Zf 134 V V V V (Zm 135 V V (Zn V V V ⟨V, V⟩) ?_))))))))))
    refine Zm 136 V V (Zd V V ⟨V, V⟩) ?_
    refine Zf 137 V V V V (Zf 138 V V V V (Zf 139 V V V V (Zf 140 V V V V (Zf 141 V V V V (Zf 142 V V V V (Zf 143 V V V V (Zf 144 V V V V (Zf 145 V V V V (Zf 146 V V V V (Zf 147 V V V V (Zf 148 V V V V ?_)))))))))))
    refine Zm 149 V V (Zn V V V ⟨V, V⟩) ?_
    refine Zm 150 V V (Zd V V ⟨V, V⟩) ?_
    refine Zf 151 V V V V (Zf 152 V V V V (Zf 153 V V V V (Zf 154 V V V V (Zm 155 V V (Zn V V V ⟨V, V⟩) ?_))))
    refine Zm 156 V V (Zd V V ⟨V, V⟩) ?_
    refine Zf 157 V V V V (Zf 158 V V V V (Zf 159 V V V V (Zf 160 V V V V (Zf 161 V V V V (Zf 162 V V V V (Zf 163 V V V V (Zf 164 V V V V (Zf 165 V V V V (Zf 166 V V V V (Zf 167 V V V V (Zf 168 V V V V ?_)))))))))))
    refine Zf 169 V V V V (Zf 170 V V V V (Zm 171 V V (Zn V V V ⟨V, V⟩) ?_))
    show BoolQ _ _ _ _ _ _
    refine Ud V ?_ by5 by3
    first | (simp_all; done) | (simp_all; omega) | grind
   intro c171 h171
   refine Zb ?_
   rcases Zi h171 with ⟨rfl, g171⟩ | ⟨rfl, g171⟩
   ·exact absurd hk g171
   exact Zt V (Zg (Zc (Za 8 V V V (Ze V V (Vs (Zb (Ya (Yh V V (Vz _) (Vu _) ⟨⟨false, by simp, V⟩, V⟩))))))))
  exact absurd g46 (by decide)
 exact absurd g14 (by decide)
theorem HoldsC_c (v : En) (gs : List Pr) (x : Pf) (q : Pr) (Q : Prop) (HX : BCall Tryz.prog 14 [.agg v.cells, .seq 5 (Pr.cellss gs), .agg x.cells, .agg q.cells] Q) : BCall Tryz.prog 42 ([] ++ [.agg x.cells, .agg q.cells] ++ [.cptr v.cells, .cptr [.seq 5 (Pr.cellss gs)]]) Q := by
 obtain ⟨qc, ⟨qk, qs, qn, ql⟩⟩ := q
 obtain ⟨da, cl, ins⟩ := v
 obtain ⟨xk, xn, xc, xl⟩ := x
 simp only [En.cells, Pf.cells, Pr.cells, Ty.cells, List.nil_append, List.cons_append] at *
 refine Zw Tryz.func42 V (by kernel_rfl) V (Uf V) ?_
 refine Yf (Zg (Zc (Za 4 V V V (Ys (cs' := [_, _, _, _]) V V V V (Za 5 V V V (Ys (cs' := [_, _, _, _, _]) V V V V (Za 6 V V V (Ze V V (Vs (Zb (Zg (Zc (Za 7 V V V (Yc (cs' := [_, _, _]) V Xw V V V (Za 8 V V V (Zo V ta_22 V V (Za 9 V V V (Yc (cs' := [_, _, _, _]) V Wm V V V (Za 10 V V V (Yc (cs' := [_, _, _, _, _]) V ta_27 V V V (Za 11 V V V (Yg (xs := [.tmp 7, .tmp 8, .tmp 9, .tmp 10]) V V (HX) by1 ?_)))))))))))))))))))))); intro c11 h11
 exact Za 6 V V V (Ze V V (Vs (Zb (Ya (Yh V V (Vz _) by3 ⟨⟨_, h11, V⟩, V⟩)))))
theorem Holds3_go (v : En) (hv : EnG v) (gs : List Pr) (i : Nat) (y : In) (hy : v.ins[i]? = some y) (ks : List Pf) (p : Pr) (hk : fitsP y p) (hp : p.t.size ≤ 1000000) (HX : ∀ x ∈ ks, ∀ q ∈ needsR v i p.t, BCall Tryz.prog 14 [.agg v.cells, .seq 5 (Pr.cellss gs), .agg x.cells, .agg q.cells] (holdsP v gs x q)) : BCall Tryz.prog 14 [.agg v.cells, .seq 5 (Pr.cellss gs), .agg (Pf.mk 3 i kE ks).cells, .agg p.cells] (holdsL v gs ks (needsR v i p.t)) := by
 have HN := Needs_c v hv i p.t hp
 have HE := EqF_pf v gs 42 [.cptr v.cells, .cptr [.seq 5 (Pr.cellss gs)]] ks (needsR v i p.t) (fun x hx q hq => HoldsC_c v gs x q _ (HX x hx q hq))
 clear HX hv
 generalize holdsL v gs ks (needsR v i p.t) = Q at *
 generalize needsR v i p.t = l at *
 have hcy := In.cellss_get hy
 have hyl := Vf hy
 obtain ⟨pc, ⟨pk, ps, pn, pl⟩⟩ := p
 obtain ⟨da, cl, ins⟩ := v
 have hil := In.cellss_len ins
 obtain ⟨yc, ⟨yk, ys, yn, yl⟩, ycx, ybs, yp⟩ := y
 have hl1 := Ty.cellss_len yl
 have hl2 := Ty.cellss_len pl
 unfold fitsP at hk
 simp only [En.cells, Pf.cells, Pr.cells, Ty.cells, In.cells, En.ins, In.c, In.hd, Pr.c, Pr.t, Ty.kind, Ty.name, Ty.kids, List.cons_append, List.nil_append] at *
 refine Zw Tryz.func14 V (by kernel_rfl) V (Uf V) ?_
 refine Yf (Zg (Zc (Za 4 V V V (Ys (cs' := [_, _, _]) V V V V (Za 5 V V V (Ys (cs' := [_]) V V V V (Za 6 V V V (Ys (cs' := [_, _, _, _]) V V V V (Za 7 V V V (Ys (cs' := [_, _, _, _, _]) V V V V (Za 8 V V V (Ze V V (Vs (Zb (Zg (Zg (Zc (Za 11 V V V (Zj V tf_30_0 V V (Za 12 V V V (Zo V Xa V V (Vs (Zb (Zz (Zg (Zc (Za 14 V V V (Yr V V V ?_)))))))))))))))))))))))))))); intro c14 h14
 refine Za 13 V V V (Ze V V (Vs (Zb ?_)))
 rcases Zi h14 with ⟨rfl, g14⟩ | ⟨rfl, g14⟩
 ·refine Zr V (Zg (Zc (Za 46 V V V (Yr V V V ?_)))); intro c46 h46
  refine Za 45 V V V (Ze V V (Vs (Zb ?_)))
  rcases Zi h46 with ⟨rfl, g46⟩ | ⟨rfl, g46⟩
  ·refine Zr V (Zg (Zc (Za 107 V V V (Yr V V V ?_)))); intro c107 h107
   refine Za 106 V V V (Ze V V (Vs (Zb ?_)))
   rcases Zi h107 with ⟨rfl, g107⟩ | ⟨rfl, g107⟩
   ·exact absurd V g107
   refine Zt V (Zg (Zg (Vk 171 (False) Wo V ?_ _ _ V ?_)))
   ·skip
    refine Zm 108 V V (Zj V tf_30_2 V V ⟨V, V⟩) ?_
    refine Zm 109 V V (Zo V Xb V V ⟨V, V⟩) ?_
    refine Wd 110 V V (fun _ q => op_sneq V V V q) ?_; intro c110 h110
    refine Zm 111 V V (Zd V V ⟨V, V⟩) ?_
    rcases Zi h110 with ⟨rfl, g110⟩ | ⟨rfl, g110⟩
    ·skip
     refine Zu 112 V V V V (Zj V Wu V V ⟨V, V⟩) ?_
     refine Zu 113 V V V V (Zo V Xa V V ⟨V, V⟩) ?_
     refine Xi 114 V V V V (fun _ q => Yu V V V q) ?_; intro c114 h114
     refine Zm 115 V V (Zn V V V ⟨V, V⟩) ?_
     refine Zm 116 V V (Zd V V ⟨V, V⟩) ?_
     rcases Zi h114 with ⟨rfl, g114⟩ | ⟨rfl, g114⟩
     ·skip
      refine Zu 117 V V V V (Zj V Wu V V ⟨V, V⟩) ?_
      refine Zu 118 V V V V (Zo V Xa V V ⟨V, V⟩) ?_
      refine Zu 119 V V V V (Zj V Vc V V ⟨V, V⟩) ?_
      refine Zu 120 V V V V (Zo V ta_36 V V ⟨V, V⟩) ?_
      refine Zu 121 V V V V (Yy V tu_36 V (.seq _ _) (fun _ => ⟨V, V⟩)) ?_
      refine Xi 122 V V V V (fun _ q => Wa V V V q) ?_; intro c122 h122
      refine Zm 123 V V (Zn V V V ⟨V, V⟩) ?_
      refine Zm 124 V V (Zd V V ⟨V, V⟩) ?_
      rcases Zi h122 with ⟨rfl, g122⟩ | ⟨rfl, g122⟩
      ·skip
       refine Zu 125 V V V V (Zj V Vc V V ⟨V, V⟩) ?_
       refine Zu 126 V V V V (Zo V ta_36 V V ⟨V, V⟩) ?_
       refine Zu 127 V V V V (Zj V Wu V V ⟨V, V⟩) ?_
       refine Zu 128 V V V V (Zo V Xa V V ⟨V, V⟩) ?_
       refine Zu 129 V V V V (Yd V te_36 V (.seq _ _) V V (hcy) ⟨V, V⟩) ?_
       refine Zu 130 V V V V (Zj V tf_73_0 V V ⟨V, V⟩) ?_
       refine Zu 131 V V V V (Zo V Xb V V ⟨V, V⟩) ?_
       refine Zu 132 V V V V (Zj V Vb V V ⟨V, V⟩) ?_
       refine Zu 133 V V V V (Zo V Xb V V ⟨V, V⟩) ?_
       refine Xi 134 V V V V (fun _ q => op_sneq V V V q) ?_; intro c134 h134
       refine Zm 135 V V (Zn V V V ⟨V, V⟩) ?_
       refine Zm 136 V V (Zd V V ⟨V, V⟩) ?_
       rcases Zi h134 with ⟨rfl, g134⟩ | ⟨rfl, g134⟩
       ·skip
        refine Zu 137 V V V V (Zj V Vc V V ⟨V, V⟩) ?_
        refine Zu 138 V V V V (Zo V ta_36 V V ⟨V, V⟩) ?_
        refine Zu 139 V V V V (Zj V Wu V V ⟨V, V⟩) ?_
        refine Zu 140 V V V V (Zo V Xa V V ⟨V, V⟩) ?_
        refine Zu 141 V V V V (Yd V te_36 V (.seq _ _) V V (hcy) ⟨V, V⟩) ?_
        refine Zu 142 V V V V (Zj V Vd V V ⟨V, V⟩) ?_
        refine Zu 143 V V V V (Zj V Wp V V ⟨V, V⟩) ?_
        refine Zu 144 V V V V (Zo V Xb V V ⟨V, V⟩) ?_
        refine Zu 145 V V V V (Zj V Wk V V ⟨V, V⟩) ?_
        refine Zu 146 V V V V (Zj V Wp V V ⟨V, V⟩) ?_
        refine Zu 147 V V V V (Zo V Xb V V ⟨V, V⟩) ?_
        refine Xi 148 V V V V (fun _ q => op_sneq V V V q) ?_; intro c148 h148
        refine Zm 149 V V (Zn V V V ⟨V, V⟩) ?_
        refine Zm 150 V V (Zd V V ⟨V, V⟩) ?_
        rcases Zi h148 with ⟨rfl, g148⟩ | ⟨rfl, g148⟩
        ·skip
         refine Zu 151 V V V V (Zj V Wk V V ⟨V, V⟩) ?_
         refine Zu 152 V V V V (Zj V tf_25_0 V V ⟨V, V⟩) ?_
         refine Zu 153 V V V V (Zo V Xa V V ⟨V, V⟩) ?_
         refine Xi 154 V V V V (fun _ q => Xq V V V q) ?_; intro c154 h154
         refine Zm 155 V V (Zn V V V ⟨V, V⟩) ?_
         refine Zm 156 V V (Zd V V ⟨V, V⟩) ?_
         rcases Zi h154 with ⟨rfl, g154⟩ | ⟨rfl, g154⟩
         ·skip
          refine Zu 157 V V V V (Zj V Wk V V ⟨V, V⟩) ?_
          refine Zu 158 V V V V (Zj V Wc V V ⟨V, V⟩) ?_
          refine Zu 159 V V V V (Zo V Vg V V ⟨V, V⟩) ?_
          refine Zu 160 V V V V (Yy V tu_23 V (.seq _ _) (fun _ => ⟨V, V⟩)) ?_
          refine Zu 161 V V V V (Zj V Vc V V ⟨V, V⟩) ?_
          refine Zu 162 V V V V (Zo V ta_36 V V ⟨V, V⟩) ?_
          refine Zu 163 V V V V (Zj V Wu V V ⟨V, V⟩) ?_
          refine Zu 164 V V V V (Zo V Xa V V ⟨V, V⟩) ?_
          refine Zu 165 V V V V (Yd V te_36 V (.seq _ _) V V (hcy) ⟨V, V⟩) ?_
          refine Zu 166 V V V V (Zj V Vd V V ⟨V, V⟩) ?_
          refine Zu 167 V V V V (Zj V Wc V V ⟨V, V⟩) ?_
          refine Zu 168 V V V V (Zo V Vg V V ⟨V, V⟩) ?_
          refine Zu 169 V V V V (Yy V tu_23 V (.seq _ _) (fun _ => ⟨V, V⟩)) ?_
          refine Xi 170 V V V V (fun _ q => Xq V V V q) ?_; intro c170 h170
          refine Zm 171 V V (Zn V V V ⟨V, V⟩) ?_
          show BoolQ _ _ _ _ _ _
          refine Ud V ?_ by5 by3
          clear HN HE; first | (simp_all; done) | (simp_all; omega) | grind
         skip
         refine Zf 157 V V V V (Zf 158 V V V V (Zf 159 V V V V (Zf 160 V V V V (Zf 161 V V V V (Zf 162 V V V V (Zf 163 V V V V (Zf 164 V V V V (Zf 165 V V V V (Zf 166 V V V V (Zf 167 V V V V (Zf 168 V V V V ?_)))))))))))
         refine Zf 169 V V V V (Zf 170 V V V V (Zm 171 V V (Zn V V V ⟨V, V⟩) ?_))
         show BoolQ _ _ _ _ _ _
         refine Ud V ?_ by5 by3
         clear HN HE; first | (simp_all; done) | (simp_all; omega) | grind
        skip
        refine Zf 151 V V V V (Zf 152 V V V V (Zf 153 V V V V (Zf 154 V V V V (Zm 155 V V (Zn V V V ⟨V, V⟩) ?_))))
        refine Zm 156 V V (Zd V V ⟨V, V⟩) ?_
        refine Zf 157 V V V V (Zf 158 V V V V (Zf 159 V V V V (Zf 160 V V V V (Zf 161 V V V V (Zf 162 V V V V (Zf 163 V V V V (Zf 164 V V V V (Zf 165 V V V V (Zf 166 V V V V (Zf 167 V V V V (Zf 168 V V V V ?_)))))))))))
        refine Zf 169 V V V V (Zf 170 V V V V (Zm 171 V V (Zn V V V ⟨V, V⟩) ?_))
        show BoolQ _ _ _ _ _ _
        refine Ud V ?_ by5 by3
        clear HN HE; first | (simp_all; done) | (simp_all; omega) | grind
       skip
       refine Zf 137 V V V V (Zf 138 V V V V (Zf 139 V V V V (Zf 140 V V V V (Zf 141 V V V V (Zf 142 V V V V (Zf 143 V V V V (Zf 144 V V V V (Zf 145 V V V V (Zf 146 V V V V (Zf 147 V V V V (Zf 148 V V V V ?_)))))))))))
       refine Zm 149 V V (Zn V V V ⟨V, V⟩) ?_
       refine Zm 150 V V (Zd V V ⟨V, V⟩) ?_
       refine Zf 151 V V V V (Zf 152 V V V V (Zf 153 V V V V (Zf 154 V V V V (Zm 155 V V (Zn V V V ⟨V, V⟩) ?_))))
       refine Zm 156 V V (Zd V V ⟨V, V⟩) ?_
       refine Zf 157 V V V V (Zf 158 V V V V (Zf 159 V V V V (Zf 160 V V V V (Zf 161 V V V V (Zf 162 V V V V (Zf 163 V V V V (Zf 164 V V V V (Zf 165 V V V V (Zf 166 V V V V (Zf 167 V V V V (Zf 168 V V V V ?_)))))))))))
       refine Zf 169 V V V V (Zf 170 V V V V (Zm 171 V V (Zn V V V ⟨V, V⟩) ?_))
       show BoolQ _ _ _ _ _ _
       refine Ud V ?_ by5 by3
       clear HN HE; first | (simp_all; done) | (simp_all; omega) | grind
      skip
      refine Zf 125 V V V V (Zf 126 V V V V (Zf 127 V V V V (Zf 128 V V V V (Zf 129 V V V V (Zf 130 V V V V (Zf 131 V V V V (Zf 132 V V V V (Zf 133 V V V V (Zf 134 V V V V (Zm 135 V V (Zn V V V ⟨V, V⟩) ?_))))))))))
      refine Zm 136 V V (Zd V V ⟨V, V⟩) ?_
      refine Zf 137 V V V V (Zf 138 V V V V (Zf 139 V V V V (Zf 140 V V V V (Zf 141 V V V V (Zf 142 V V V V (Zf 143 V V V V (Zf 144 V V V V (Zf 145 V V V V (Zf 146 V V V V (Zf 147 V V V V (Zf 148 V V V V ?_)))))))))))
      refine Zm 149 V V (Zn V V V ⟨V, V⟩) ?_
      refine Zm 150 V V (Zd V V ⟨V, V⟩) ?_
      refine Zf 151 V V V V (Zf 152 V V V V (Zf 153 V V V V (Zf 154 V V V V (Zm 155 V V (Zn V V V ⟨V, V⟩) ?_))))
      refine Zm 156 V V (Zd V V ⟨V, V⟩) ?_
      refine Zf 157 V V V V (Zf 158 V V V V (Zf 159 V V V V (Zf 160 V V V V (Zf 161 V V V V (Zf 162 V V V V (Zf 163 V V V V (Zf 164 V V V V (Zf 165 V V V V (Zf 166 V V V V (Zf 167 V V V V (Zf 168 V V V V ?_)))))))))))
      refine Zf 169 V V V V (Zf 170 V V V V (Zm 171 V V (Zn V V V ⟨V, V⟩) ?_))
      show BoolQ _ _ _ _ _ _
      refine Ud V ?_ by5 by3
      clear HN HE; first | (simp_all; done) | (simp_all; omega) | grind
     skip
     refine Zf 117 V V V V (Zf 118 V V V V (Zf 119 V V V V (Zf 120 V V V V (Zf 121 V V V V (Zf 122 V V V V (Zm 123 V V (Zn V V V ⟨V, V⟩) ?_))))))
     refine Zm 124 V V (Zd V V ⟨V, V⟩) ?_
     refine Zf 125 V V V V (Zf 126 V V V V (Zf 127 V V V V (Zf 128 V V V V (Zf 129 V V V V (Zf 130 V V V V (Zf 131 V V V V (Zf 132 V V V V (Zf 133 V V V V (Zf 134 V V V V (Zm 135 V V (Zn V V V ⟨V, V⟩) ?_))))))))))
     refine Zm 136 V V (Zd V V ⟨V, V⟩) ?_
     refine Zf 137 V V V V (Zf 138 V V V V (Zf 139 V V V V (Zf 140 V V V V (Zf 141 V V V V (Zf 142 V V V V (Zf 143 V V V V (Zf 144 V V V V (Zf 145 V V V V (Zf 146 V V V V (Zf 147 V V V V (Zf 148 V V V V ?_)))))))))))
     refine Zm 149 V V (Zn V V V ⟨V, V⟩) ?_
     refine Zm 150 V V (Zd V V ⟨V, V⟩) ?_
     refine Zf 151 V V V V (Zf 152 V V V V (Zf 153 V V V V (Zf 154 V V V V (Zm 155 V V (Zn V V V ⟨V, V⟩) ?_))))
     refine Zm 156 V V (Zd V V ⟨V, V⟩) ?_
     refine Zf 157 V V V V (Zf 158 V V V V (Zf 159 V V V V (Zf 160 V V V V (Zf 161 V V V V (Zf 162 V V V V (Zf 163 V V V V (Zf 164 V V V V (Zf 165 V V V V (Zf 166 V V V V (Zf 167 V V V V (Zf 168 V V V V ?_)))))))))))
     refine Zf 169 V V V V (Zf 170 V V V V (Zm 171 V V (Zn V V V ⟨V, V⟩) ?_))
     show BoolQ _ _ _ _ _ _
     refine Ud V ?_ by5 by3
     clear HN HE; first | (simp_all; done) | (simp_all; omega) | grind
    skip
    refine Zf 112 V V V V (Zf 113 V V V V (Zf 114 V V V V (Zm 115 V V (Zn V V V ⟨V, V⟩) ?_)))
    refine Zm 116 V V (Zd V V ⟨V, V⟩) ?_
    refine Zf 117 V V V V (Zf 118 V V V V (Zf 119 V V V V (Zf 120 V V V V (Zf 121 V V V V (Zf 122 V V V V (Zm 123 V V (Zn V V V ⟨V, V⟩) ?_))))))
    refine Zm 124 V V (Zd V V ⟨V, V⟩) ?_
    refine Zf 125 V V V V (Zf 126 V V V V (Zf 127 V V V V (Zf 128 V V V V (Zf 129 V V V V (Zf 130 V V V V (Zf 131 V V V V (Zf 132 V V V V (Zf 133 V V V V (Zf 134 V V V V (Zm 135 V V (Zn V V V ⟨V, V⟩) ?_))))))))))
    refine Zm 136 V V (Zd V V ⟨V, V⟩) ?_
    refine Zf 137 V V V V (Zf 138 V V V V (Zf 139 V V V V (Zf 140 V V V V (Zf 141 V V V V (Zf 142 V V V V (Zf 143 V V V V (Zf 144 V V V V (Zf 145 V V V V (Zf 146 V V V V (Zf 147 V V V V (Zf 148 V V V V ?_)))))))))))
    refine Zm 149 V V (Zn V V V ⟨V, V⟩) ?_
    refine Zm 150 V V (Zd V V ⟨V, V⟩) ?_
    refine Zf 151 V V V V (Zf 152 V V V V (Zf 153 V V V V (Zf 154 V V V V (Zm 155 V V (Zn V V V ⟨V, V⟩) ?_))))
    refine Zm 156 V V (Zd V V ⟨V, V⟩) ?_
    refine Zf 157 V V V V (Zf 158 V V V V (Zf 159 V V V V (Zf 160 V V V V (Zf 161 V V V V (Zf 162 V V V V (Zf 163 V V V V (Zf 164 V V V V (Zf 165 V V V V (Zf 166 V V V V (Zf 167 V V V V (Zf 168 V V V V ?_)))))))))))
    refine Zf 169 V V V V (Zf 170 V V V V (Zm 171 V V (Zn V V V ⟨V, V⟩) ?_))
    show BoolQ _ _ _ _ _ _
    refine Ud V ?_ by5 by3
    clear HN HE; first | (simp_all; done) | (simp_all; omega) | grind
   intro c171 h171
   refine Zb ?_
   rcases Zi h171 with ⟨rfl, g171⟩ | ⟨rfl, g171⟩
   ·refine Zr V (Zv (Zb (Zg (Vl Wo V (Zm 172 V V (Zj V tf_30_3 V V ⟨V, V⟩) ?_)))))
    refine Zm 173 V V (Zo V ta_28 V V ⟨V, V⟩) ?_
    refine Zm 174 V V (Yc (cs' := [_, _, _]) V Xw V V V ⟨V, V⟩) ?_
    refine Zm 175 V V (Zj V Wu V V ⟨V, V⟩) ?_
    refine Zm 176 V V (Zo V Xa V V ⟨V, V⟩) ?_
    refine Zm 177 V V (Zj V Wk V V ⟨V, V⟩) ?_
    refine Zm 178 V V (Yc (cs' := [_, _, _, _]) V Xz V V V ⟨V, V⟩) ?_
    refine Zm 179 V V (Ym (xs := [.tmp 174, .tmp 176, .tmp 178]) V V (HN) by1 ⟨V, V⟩) ?_
    refine Zm 180 V V (op_makeFunc (fs := []) (cs := [.tmp 4, .tmp 5]) V V V ⟨V, V⟩) ?_
    refine Wd 181 V V (fun _ q => Yg (xs := [.tmp 173, .tmp 179, .tmp 180]) V V (HE) by1 q) ?_; intro c181 h181
    refine Zm 8 V V (Ze V V ⟨V, V⟩) ?_
    show AGo _ _ _ _ _ _ _
    exact Zb (Ya (Yh V V (Vz _) (Vu _) ⟨⟨_, h181, V⟩, V⟩))
   exact False.elim g171
  exact absurd g46 (by decide)
 exact absurd g14 (by decide)
theorem Holds0_c (v : En) (gs : List Pr) (k n : Int) (c : ByteArray) (ks : List Pf) (p : Pr) (h1 : k ≠ 1) (h2 : k ≠ 2) (h3 : k ≠ 3) : BCall Tryz.prog 14 [.agg v.cells, .seq 5 (Pr.cellss gs), .agg (Pf.mk k n c ks).cells, .agg p.cells] False := by
 obtain ⟨pc, ⟨pk, ps, pn, pl⟩⟩ := p
 obtain ⟨da, cl, ins⟩ := v
 simp only [En.cells, Pf.cells, Pr.cells, Ty.cells] at *
 refine Zw Tryz.func14 V (by kernel_rfl) V (Uf V) ?_
 refine Yf (Zg (Zc (Za 4 V V V (Ys (cs' := [_, _, _]) V V V V (Za 5 V V V (Ys (cs' := [_]) V V V V (Za 6 V V V (Ys (cs' := [_, _, _, _]) V V V V (Za 7 V V V (Ys (cs' := [_, _, _, _, _]) V V V V (Za 8 V V V (Ze V V (Vs (Zb (Zg (Zg (Zc (Za 11 V V V (Zj V tf_30_0 V V (Za 12 V V V (Zo V Xa V V (Vs (Zb (Zz (Zg (Zc (Za 14 V V V (Yr V V V ?_)))))))))))))))))))))))))))); intro c14 h14
 refine Za 13 V V V (Ze V V (Vs (Zb ?_)))
 rcases Zi h14 with ⟨rfl, g14⟩ | ⟨rfl, g14⟩
 ·refine Zr V (Zg (Zc (Za 46 V V V (Yr V V V ?_)))); intro c46 h46
  refine Za 45 V V V (Ze V V (Vs (Zb ?_)))
  rcases Zi h46 with ⟨rfl, g46⟩ | ⟨rfl, g46⟩
  ·refine Zr V (Zg (Zc (Za 107 V V V (Yr V V V ?_)))); intro c107 h107
   refine Za 106 V V V (Ze V V (Vs (Zb ?_)))
   rcases Zi h107 with ⟨rfl, g107⟩ | ⟨rfl, g107⟩
   ·exact Zr V (Zv (Yt (Zb (Zg (Zc (Za 8 V V V (Ze V V (Vs (Zb (Ya (Yh V V (Vz _) (Vu _) ⟨⟨false, by simp, V⟩, V⟩)))))))))))
   exact absurd g107 h3
  exact absurd g46 h2
 exact absurd g14 h1
theorem Holds_c (v : En) (hv : EnC v) (gs : List Pr) : ∀ (d : Nat) (x : Pf), x.size ≤ d → ∀ p : Pr, p.t.size ≤ 1000000 → BCall Tryz.prog 14 [.agg v.cells, .seq 5 (Pr.cellss gs), .agg x.cells, .agg p.cells] (holdsP v gs x p)
 | 0, x, h, _, _ => by cases x; simp [Pf.size] at h
 | d + 1, .mk k n c ks, h, p, hp => by
  rw [Pf.size] at h
  have IH : ∀ x ∈ ks, ∀ p : Pr, p.t.size ≤ 1000000 → _ := fun x hx p hp => Holds_c v hv gs d x (by have := Pf.size_mem hx; omega) p hp
  by_cases h1 : k = 1
  ·subst h1
   by_cases hn : n < 0 ∨ gs.length ≤ n
   ·refine bsame (Holds1_out v gs n hn c ks p) ?_
    rw [holds_1]
    refine ⟨False.elim, fun q => ?_⟩
    have := Vf q.2.2.2
    omega
   obtain ⟨i, rfl⟩ : ∃ i : Nat, n = i := ⟨n.toNat, by omega⟩
   obtain ⟨g, hg⟩ := Yw (l := gs) (i := i) (by omega)
   refine bsame (Holds1_in v gs i g hg c ks p) ?_
   rw [holds_1, show ((i : Int)).toNat = i by omega, hg]
   simp
  by_cases h2 : k = 2
  ·subst h2
   by_cases hc : 0 ≤ classI v c
   ·obtain ⟨j, z, hj, hz, hs⟩ := classI_hit hc
    by_cases hn : n < 0 ∨ z.su.length ≤ n
    ·refine bsame (Holds2_out v gs n c j z hj hz hn ks p) ?_
     rw [holds_2, hs]
     refine ⟨False.elim, fun q => ?_⟩
     have := Vf q.2.2.1
     omega
    obtain ⟨i, rfl⟩ : ∃ i : Nat, n = i := ⟨n.toNat, by omega⟩
    obtain ⟨s, hsi⟩ := Yw (l := z.su) (i := i) (by omega)
    by_cases hk : ks.length = 1 ∧ s = p.c
    ·obtain ⟨hk1, hk2⟩ := hk
     obtain ⟨x, rfl⟩ := List.length_eq_one_iff.1 hk1
     subst hk2
     refine bsame (Holds2_go v gs i c j z hj hz x p hsi _ (IH x (by simp) (.mk c p.t) hp)) ?_
     rw [holds_2, hs, show ((i : Int)).toNat = i by omega, hsi, holdsL_one]
     exact ⟨fun q => ⟨hc, by omega, rfl, x, rfl, q⟩, fun ⟨_, _, _, y, he, hq⟩ => by cases he; exact hq⟩
    refine bsame (Holds2_in v gs i c j z hj hz s hsi ks p hk) ?_
    rw [holds_2, hs, show ((i : Int)).toNat = i by omega, hsi]
    refine ⟨False.elim, fun q => hk ⟨by have := holdsL_len q.2.2.2; simpa using this, by simpa using q.2.2.1⟩⟩
   refine bsame (Holds2_no v gs n c hc ks p) ?_
   rw [holds_2]
   exact ⟨False.elim, fun q => hc q.1⟩
  by_cases h3 : k = 3
  ·subst h3
   by_cases hn : n < 0 ∨ v.ins.length ≤ n
   ·refine bsame (Holds3_out v gs n c hn ks p) ?_
    rw [holds_3]
    refine ⟨False.elim, fun ⟨_, _, ⟨y, hy, _⟩, _⟩ => ?_⟩
    have := Vf hy
    omega
   obtain ⟨i, rfl⟩ : ∃ i : Nat, n = i := ⟨n.toNat, by omega⟩
   obtain ⟨y, hy⟩ := Yw (l := v.ins) (i := i) (by omega)
   by_cases hk : c = kE ∧ fitsP y p
   ·obtain ⟨rfl, hf⟩ := hk
    refine bsame (Holds3_go v hv.g gs i y hy ks p hf hp (fun x hx q hq => IH x hx q (by have := hv.needs_size hq; omega))) ?_
    rw [holds_3, show ((i : Int)).toNat = i by omega, hy]
    exact ⟨fun q => ⟨V, by omega, ⟨y, V, hf⟩, q⟩, fun q => q.2.2.2⟩
   refine bsame (Holds3_no v gs i c y hy ks p hk) ?_
   rw [holds_3, show ((i : Int)).toNat = i by omega, hy]
   refine ⟨False.elim, fun ⟨hc, _, ⟨y', he, hf⟩, _⟩ => ?_⟩
   cases he
   exact hk ⟨hc, hf⟩
  exact bsame (Holds0_c v gs k n c ks p h1 h2 h3) ⟨False.elim, holds_0 h1 h2 h3⟩
section
variable {P : Program} {l : List Oper} {ws : List Nat} {anc : List (List Nat)} {QQ : Sl → Mem → Prop} {ord : List Nat} {al : Sl} {M : Mem} {L : List (Nat × Nat)} {o : Oper}
theorem EOps.dg {v : AV} {i j : Nat} {b : Bool} {t : Tmp} (d : Nat) (fp : Option Nat) (hi : l[i]? = some o) (hw : ws.contains i = false) (hg : o.guard = some (j, b)) (hj : (l[j]?).bind (·.dst) = some t) (hc : al.lookup t = some (.val (.bool b))) (hd : o.dst = some d) (hfp : fp.all (fun k => Nat.blt k M.length) = true) (h : OpT P { o with guard := none } (al.only (Oper.tmps o)) (fpm M fp) (fun v' M' => v' = v ∧ M' = fpm M fp)) (q : EOps P l ws anc QQ ord ((d, v) :: al) M ((fp.toList.map fun k => (i, k)) ++ L)) : EOps P l ws anc QQ (i :: ord) al M L :=
 ⟨o, hi, by rw [if_neg (by rw [hw]; simp)]; exact ⟨fp, v, hfp, by unfold DStep; rw [hg]; exact ⟨t, hj, .inl ⟨hc, h⟩⟩, by rw [hd]; exact q⟩⟩
theorem EOps.cmg {i j : Nat} {b : Bool} {t : Tmp} {p : Prop} (d : Nat) (hi : l[i]? = some o) (hw : ws.contains i = false) (hg : o.guard = some (j, b)) (hj : (l[j]?).bind (·.dst) = some t) (hc : al.lookup t = some (.val (.bool b))) (hd : o.dst = some d) (h : ∀ K : AV → Mem → Prop, (∀ c : Bool, (c = true ↔ p) → K (.val (.bool c)) []) → OpT P { o with guard := none } (al.only (Oper.tmps o)) [] K) (q : ∀ c : Bool, (c = true ↔ p) → EOps P l ws anc QQ ord ((d, .val (.bool c)) :: al) M L) : EOps P l ws anc QQ (i :: ord) al M L := by
 have : ∃ c : Bool, c = true ↔ p := by
  by_cases hp : p
  ·exact ⟨true, by simp [hp]⟩
  exact ⟨false, by simp [hp]⟩
 obtain ⟨c, hq⟩ := this
 refine EOps.dg d none hi hw hg hj hc hd V (h _ (fun c' hc' => ⟨?_, V⟩)) (q c hq)
 have : c' = c := by cases c <;> cases c' <;> simp_all
 rw [this]
theorem EOps.df {i j : Nat} {b : Bool} {t : Tmp} (d : Nat) (hi : l[i]? = some o) (hw : ws.contains i = false) (hg : o.guard = some (j, b)) (hj : (l[j]?).bind (·.dst) = some t) (hc : al.lookup t = some (.val (.bool !b))) (hd : o.dst = some d) (q : EOps P l ws anc QQ ord ((d, .val undef) :: al) M L) : EOps P l ws anc QQ (i :: ord) al M L :=
 ⟨o, hi, by rw [if_neg (by rw [hw]; simp)]; exact ⟨none, .val undef, rfl, by unfold DStep; rw [hg]; exact ⟨t, hj, .inr ⟨.inl hc, rfl⟩⟩, by rw [hd]; exact q⟩⟩
end
def psC (L : List Tok) (p : PS) : List AV := [.seq 4 (L.map Tok.av), .val (.int .i64 p.at_), .val (.int .i64 p.lv), .val (.int .i64 p.e), .val (.int .i64 p.wh)]
theorem next_c (b : Nat) (L : List Tok) (p : PS) : KCall Tryz.prog 50 [.ptr b 0] [.loc b (psC L p)] (.agg (nxt L p).av) := by
 obtain ⟨a, lv, e, wh⟩ := p
 have hl : (L.map Tok.av).length = L.length := List.length_map _
 simp only [psC]
 refine Zw Tryz.func50 V (by kernel_rfl) V (Uf V) ?_
 refine Yf (Zg (Zc (Za 2 V V V (Zy (cs' := [_, _, _, _]) V Wj V V ?_)))); intro b2
 refine Vs (Zb (Zg (Zg (Vk 19 (e ≠ 0 ∨ L.length ≤ a) Wo V ?_ _ _ V ?_))))
 ·skip
  refine Zm 3 V V (Zd V V ⟨V, V⟩) ?_
  refine Zm 4 V V (Yk V V ⟨V, V⟩) ?_
  refine Zm 5 V V (Zh V Vo V ⟨V, V⟩) ?_
  refine Zm 6 V V (Zp (i := 1) V Xa V V V ⟨V, V⟩) ?_
  refine Wd 7 V V (fun _ q => Xq V V V q) ?_; intro c7 h7
  refine Zm 8 V V (Zd V V ⟨V, V⟩) ?_
  rcases Zi h7 with ⟨rfl, g7⟩ | ⟨rfl, g7⟩
  ·skip
   refine Zu 9 V V V V (Zd V V ⟨V, V⟩) ?_
   refine Zu 10 V V V V (Yk V V ⟨V, V⟩) ?_
   refine Zu 11 V V V V (Zh V tf_95_1 V ⟨V, V⟩) ?_
   refine Zu 12 V V V V (Zp (i := 1) V Xa V V V ⟨V, V⟩) ?_
   refine Zu 13 V V V V (Zd V V ⟨V, V⟩) ?_
   refine Zu 14 V V V V (Yk V V ⟨V, V⟩) ?_
   refine Zu 15 V V V V (Zh V tf_95_0 V ⟨V, V⟩) ?_
   refine Zu 16 V V V V (Zp (i := 1) V ta_93 V V V ⟨V, V⟩) ?_
   refine Zu 17 V V V V (Yy V tu_93 V (.seq _ _) (fun _ => ⟨V, V⟩)) ?_
   refine Xi 18 V V V V (fun _ q => Wa V V V q) ?_; intro c18 h18
   refine Zm 19 V V (Zn V V V ⟨V, V⟩) ?_
   show BoolQ _ _ _ _ _ _
   refine Ud V ?_ by5 by3
   simp_all; done
  skip
  refine Zf 9 V V V V (Zf 10 V V V V (Zf 11 V V V V (Zf 12 V V V V (Zf 13 V V V V (Zf 14 V V V V (Zf 15 V V V V (Zf 16 V V V V (Zf 17 V V V V (Zf 18 V V V V (Zm 19 V V (Zn V V V ⟨V, V⟩) ?_))))))))))
  show BoolQ _ _ _ _ _ _
  refine Ud V ?_ by5 by3
  simp_all; done
 intro c19 h19
 refine Zb ?_
 rcases Zi h19 with ⟨rfl, g19⟩ | ⟨rfl, g19⟩
 ·refine Zr V (Zv (Zb (Zg ?_)))
  obtain ⟨t, ht⟩ := Yw (l := L) (i := a) (by omega)
  have htc : (L.map Tok.av)[a]? = some t.av := by rw [List.getElem?_map, ht]; rfl
  refine Xu [0, 1, 2, 3, 4, 5, 6, 7, 8, 9, 10] [10] [[], [0], [0, 1], [0, 1, 2], [], [4], [4, 5], [4, 5, 6], [0, 1, 2, 3, 4, 5, 6, 7], [0, 1, 2, 3, 4, 5, 6, 7, 8], [0, 1, 2, 3, 4, 5, 6, 7, 8, 9]] Wo V (Yb 21 (none) (i := 0) V V V V V (Zd V V ⟨V, V⟩) ?_)
  refine Yb 22 (none) (i := 1) V V V V V (Yk V V ⟨V, V⟩) ?_
  refine Yb 23 (none) (i := 2) V V V V V (Zh V tf_95_0 V ⟨V, V⟩) ?_
  refine Yb 24 (some 1) (i := 3) V V V V V (Zp (i := 0) V ta_93 V V V ⟨V, V⟩) ?_
  refine Yb 25 (none) (i := 4) V V V V V (Zd V V ⟨V, V⟩) ?_
  refine Yb 26 (none) (i := 5) V V V V V (Yk V V ⟨V, V⟩) ?_
  refine Yb 27 (none) (i := 6) V V V V V (Zh V tf_95_1 V ⟨V, V⟩) ?_
  refine Yb 28 (some 1) (i := 7) V V V V V (Zp (i := 0) V Xa V V V ⟨V, V⟩) ?_
  refine Yb 29 (none) (i := 8) V V V V V (Yd V te_93 V (.seq _ _) V V (htc) ⟨V, V⟩) ?_
  refine Yb 30 (none) (i := 9) V V V V V (Yc (cs' := [_, _, _, _]) V Yq V V V ⟨V, V⟩) ?_
  refine Xn 0 (i := 10) V V V V V (Zq (cs' := [_, _, _, _]) (i := 0) V Xk V V V V V (Uf V) V ⟨_, V, ?_⟩)
  show AGo _ _ _ _ _ _ _
  refine Zb (Ya ?_)
  first | refine Yn (i := 0) V V V Yq V (Vz _) by3 ⟨?_, V⟩ | refine Yn (i := 1) V V V Yq V (Vz _) by3 ⟨?_, V⟩
  have hn : nxt L ⟨a, lv, e, wh⟩ = t := by
   unfold nxt
   rw [if_neg (fun q => g19 (.inl q)), ht]; rfl
  rw [hn]; rfl
 refine Zt V (Zg (Zc (Za 20 V V V (Yl (ns := []) (xs := []) V Wj V tfl_97 V V V V (Zs V V (Zq (cs' := [_, _, _, _]) (i := 0) V Xk V V V V V (Uf V) V (Vs (Zb (Ya ?_)))))))))
 first | refine Yn (i := 0) V V V Yq V (Vz _) by3 ⟨?_, V⟩ | refine Yn (i := 1) V V V Yq V (Vz _) by3 ⟨?_, V⟩
 have hn : nxt L ⟨a, lv, e, wh⟩ = tok0 0 := by
  unfold nxt
  by_cases q : e ≠ 0
  ·rw [if_pos q]
  rw [if_neg q, List.getElem?_eq_none (g19.resolve_left q)]; rfl
 rw [hn]; rfl
theorem is_p (b : Nat) (L : List Tok) (p : PS) (s : ByteArray) : KBCall Tryz.prog 80 [.ptr b 0, .val (.string s)] [.loc b (psC L p)] (isP L p s = true) := by
 have HN := next_c b L p
 have hI : isP L p s = true ↔ (6 ≤ (nxt L p).k ∧ (nxt L p).t = s) := by unfold isP; simp
 generalize isP L p s = c at *
 generalize nxt L p = t at *
 obtain ⟨tk, tt, tn, ta⟩ := t
 simp only [Tok.av] at HN hI
 refine Zw Tryz.func80 V (by kernel_rfl) V (Uf V) ?_
 refine Yf (Zg (Zc (Za 4 V V V (Ze V V (Vs (Zb (Zg (Zc (Za 6 V V V (Zd V V (Za 7 V V V (Wr (xs := [.tmp 6]) [0] V V V (HN) by1 ?_))))))))))))
 refine Za 5 V V V (Zy (cs' := [_, _, _, _]) V Wj V V ?_); intro b5
 refine Zs V V (Zq (cs' := [_, _, _, _]) (i := 0) V Xk V V V V V (Uf V) V (Vs (Zb (Zg (Xl 4 (6 ≤ tk ∧ tt = s) ?_ _ _ V ?_)))))
 ·skip
  refine Za 8 V V V (Zh V Xf V (Za 9 V V V (Zp (i := 0) V Xa V V V (Za 10 V V V (Wa V V V ?_))))); intro c10 h10
  refine Za 11 V V V (Zd V V ?_)
  rcases Zi h10 with ⟨rfl, g10⟩ | ⟨rfl, g10⟩
  ·skip
   refine Zk 12 V V V V V (Zk 13 V V V V V (Zk 14 V V V V V (Zk 15 V V V V V (Za 16 V V V (Zn V V V (Za 4 V V V (Ze V V (Vs (Ud V ?_ by5 by3)))))))))
   clear HN hI; first | (simp_all; done) | grind
  skip
  refine Zl 12 V V V V V (Zh V Xh V (Zl 13 V V V V V (Zp (i := 0) V Xb V V V (Zl 14 V V V V V (Zd V V (Zl 15 V V V V V (Xx V V V ?_))))))); intro c15 h15
  refine Za 16 V V V (Zn V V V (Za 4 V V V (Ze V V (Vs (Ud V ?_ by5 by3)))))
  clear HN hI; first | (simp_all; done) | grind
 intro c4 h4
 exact Zb (Ya (Yh V V (Vz _) by3 ⟨⟨_, h4.trans hI.symm, V⟩, V⟩))
end Go.Proofs.YtknodnfbaofngaaGreat
