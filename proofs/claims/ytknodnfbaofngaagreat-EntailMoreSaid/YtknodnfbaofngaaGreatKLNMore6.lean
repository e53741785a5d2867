/- Parts of a proof: what stands above a class: the classes that can be reached; Put and Apply of the document; Needs of the document; Needs of both, as one function; proofs of preds as plain data; the document's Prove as plain functions; nodes; what is asked; The arguments of the statements of layer 12.; when a proof holds, as a plain law; sameness of preds and proofs; an instance that fits; the way up: climb of the document, up of the program; Prove of the program; EqualFunc of proofs and preds; Holds of the program, by the kind of the proof; Holds of the program; Prove of the document; the document's Prove is sound, and with more givens it proves what it proved; the examples' source, as tokens; the examples' source, parsed; the examples' declarations are right; operations that are guarded, in a drawn region that writes; the document's parser: next, is; the document's parser: fail, take, may, deeper; the document's parser: name, uppers, starts; the document's parser: atype, Type -/
import Derived.Test.YtknodnfbaofngaaGreatKLNMore5
namespace Go.Proofs.YtknodnfbaofngaaGreat
def Edge (v : En) (c s : ByteArray) : Prop := 0 ≤ classI v c ∧ s ∈ supersOf v c
inductive Up (v : En) : ByteArray → ByteArray → Prop
 | one {c s : ByteArray} (h : Edge v c s) : Up v c s
 | step {c s x : ByteArray} (h : Edge v c s) (k : Up v s x) : Up v c x
theorem Up.trans {v : En} {a b c : ByteArray} (h : Up v a b) (k : Up v b c) : Up v a c := by
 induction h with
 | one h => exact .step h k
 | step h _ ih => exact .step h (ih k)
theorem overL_sound {O : ByteArray → List ByteArray → List ByteArray} {G : ByteArray → Prop} (HO : ∀ s met, G s → ∀ x ∈ O s met, x ∈ met ∨ G x) : ∀ (ss met : List ByteArray), (∀ s ∈ ss, G s) → ∀ x ∈ overL O ss met, x ∈ met ∨ G x
 | [], met, _, x, hx => .inl hx
 | s :: ss, met, h, x, hx => by
  unfold overL at hx
  by_cases hm : hasB met s = true
  ·rw [if_pos hm] at hx; exact overL_sound HO ss met (fun y hy => h y (by simp [hy])) x hx
  ·rw [if_neg hm] at hx
   rcases overL_sound HO ss _ (fun y hy => h y (by simp [hy])) x hx with q | q
   ·rcases HO s _ (h s (by simp)) x q with q | q
    ·rcases List.mem_append.1 q with q | q
     ·exact .inl q
     ·rw [List.mem_singleton.1 q]; exact .inr (h s (by simp))
    ·exact .inr q
   ·exact .inr q
theorem overF_sound (v : En) : ∀ (n : Nat) (c : ByteArray) (met : List ByteArray), ∀ x ∈ overF v n c met, x ∈ met ∨ Up v c x
 | 0, c, met, x, hx => .inl hx
 | n + 1, c, met, x, hx => by
  unfold overF at hx
  split at hx
  ·exact .inl hx
  ·rename_i hc
   exact overL_sound (G := fun x => Up v c x) (fun s met' hs x hx => by
    rcases overF_sound v n s met' x hx with q | q
    ·exact .inl q
    ·exact .inr (hs.trans q)) (supersOf v c) met (fun s hs => .one ⟨by omega, hs⟩) x hx
theorem overL_closed {v : En} {n : Nat} {O : ByteArray → List ByteArray → List ByteArray} (HG : ∀ s met, Grow (allSup v) met (O s met)) (HO : ∀ s met, lack (allSup v) met < n → (∀ y, Edge v s y → y ∈ O s met) ∧ (∀ y ∈ O s met, y ∉ met → ∀ z, Edge v y z → z ∈ O s met)) : ∀ (ss met : List ByteArray), (∀ s ∈ ss, s ∈ allSup v) → lack (allSup v) met ≤ n → (∀ y ∈ ss, y ∈ overL O ss met) ∧ (∀ y ∈ overL O ss met, y ∉ met → ∀ z, Edge v y z → z ∈ overL O ss met)
 | [], met, _, _ => ⟨by simp, fun y hy h => absurd hy h⟩
 | s :: ss, met, h, hl => by
  have hG := overL_grow HG ss
  unfold overL
  by_cases hm : hasB met s = true
  ·rw [if_pos hm]
   obtain ⟨h1, h2⟩ := overL_closed HG HO ss met (fun y hy => h y (by simp [hy])) hl
   refine ⟨fun y hy => ?_, h2⟩
   rcases List.mem_cons.1 hy with rfl | hy
   ·exact (hG met (fun y hy => h y (by simp [hy]))).2.2 _ (hasB_iff.1 hm)
   ·exact h1 y hy
  ·rw [if_neg hm]
   have hs := h s (by simp)
   have hlt := lack_lt hs hm
   have g1 := HG s (met ++ [s])
   have g2 := hG (O s (met ++ [s])) (fun y hy => h y (by simp [hy]))
   obtain ⟨k1, k2⟩ := HO s (met ++ [s]) (by omega)
   obtain ⟨h1, h2⟩ := overL_closed HG HO ss (O s (met ++ [s])) (fun y hy => h y (by simp [hy])) (by have := g1.2.1; omega)
   refine ⟨fun y hy => ?_, fun y hy hn z hz => ?_⟩
   ·rcases List.mem_cons.1 hy with rfl | hy
    ·exact g2.2.2 _ (g1.2.2 _ (by simp))
    ·exact h1 y hy
   ·by_cases hy1 : y ∈ O s (met ++ [s])
    ·by_cases e : y = s
     ·subst e; exact g2.2.2 _ (k1 z hz)
     ·exact g2.2.2 _ (k2 y hy1 (by simp [hn, e]) z hz)
    ·exact h2 y hy hy1 z hz
theorem overF_closed (v : En) : ∀ (n : Nat) (c : ByteArray) (met : List ByteArray), lack (allSup v) met < n → (∀ y, Edge v c y → y ∈ overF v n c met) ∧ (∀ y ∈ overF v n c met, y ∉ met → ∀ z, Edge v y z → z ∈ overF v n c met)
 | 0, c, met, h => by omega
 | n + 1, c, met, h => by
  unfold overF
  split
  ·rename_i hc
   exact ⟨fun y hy => absurd hy.1 (by omega), fun y hy hn => absurd hy hn⟩
  ·obtain ⟨h1, h2⟩ := overL_closed (n := n) (overF_grow v n) (fun s met hs => overF_closed v n s met hs) (supersOf v c) met (supersOf_sub v c) (by omega)
   exact ⟨fun y hy => h1 y hy.2, h2⟩
theorem above_iff (v : En) (c x : ByteArray) : x ∈ aboveR v c ↔ Up v c x := by
 constructor
 ·intro h
  rcases overF_sound v _ c [] x h with q | q
  ·simp at q
  ·exact q
 ·intro h
  obtain ⟨h1, h2⟩ := overF_closed v ((allSup v).length + 1) c [] (by rw [lack_nil]; omega)
  have h1 : ∀ y, Edge v c y → y ∈ aboveR v c := h1
  have h2 : ∀ y ∈ aboveR v c, ∀ z, Edge v y z → z ∈ aboveR v c := fun y hy => h2 y hy (by simp)
  have key : ∀ {a b : ByteArray}, Up v a b → (a = c ∨ a ∈ aboveR v c) → b ∈ aboveR v c := by
   intro a b k
   induction k with
   | one e =>
    rintro (rfl | q)
    ·exact h1 _ e
    ·exact h2 _ q _ e
   | step e _ ih =>
    rintro (rfl | q)
    ·exact ih (.inr (h1 _ e))
    ·exact ih (.inr (h2 _ q _ e))
  exact key h (.inl J)
theorem EnC.no_circle {v : En} (hv : EnC v) (c : ByteArray) : ¬ Up v c c := by
 intro h
 have h0 : 0 ≤ classI v c := by cases h with | one e => exact e.1 | step e _ => exact e.1
 obtain ⟨y, h1, h2, _⟩ := findI_get (fun (x : Cl) => sameB x.s c) v.cl 0 h0
 have := hv.acy y (Uh h1)
 rw [Wz.1 h2] at this
 exact this ((above_iff v c c).2 h)
def high (v : En) (c : ByteArray) : Nat := ((allSup v).filter fun s => hasB (aboveR v c) s).length
theorem filter_lt {α : Type} {p q : α → Bool} {l : List α} (h : ∀ x, p x = true → q x = true) {x : α} (hx : x ∈ l) (h1 : p x = false) (h2 : q x = true) : (l.filter p).length < (l.filter q).length := by
 induction l with
 | nil => simp at hx
 | cons y l ih =>
  have hle : ∀ l : List α, (l.filter p).length ≤ (l.filter q).length := by
   intro l
   induction l with
   | nil => simp
   | cons z l ih =>
    simp only [List.filter_cons]
    cases hp : p z with
    | true => simp [h z hp]; exact ih
    | false => cases hq : q z <;> simp <;> omega
  have := hle l
  simp only [List.filter_cons]
  rcases List.mem_cons.1 hx with rfl | hx
  ·simp [h1, h2]; omega
  ·have := ih hx
   cases hp : p y with
   | true => simp [h y hp]; omega
   | false => cases hq : q y <;> simp <;> omega
theorem EnC.high_lt {v : En} (hv : EnC v) {c s : ByteArray} (h : Edge v c s) : high v s < high v c := by
 refine filter_lt (fun x hx => ?_) (x := s) (supersOf_sub v c s h.2) ?_ ?_
 ·exact hasB_iff.2 ((above_iff v c x).2 (.step h ((above_iff v s x).1 (hasB_iff.1 hx))))
 ·cases q : hasB (aboveR v s) s with
  | false => rfl
  | true => exact absurd ((above_iff v s s).1 (hasB_iff.1 q)) (hv.no_circle s)
 ·exact hasB_iff.2 ((above_iff v c s).2 (.one h))
theorem up_next {v : En} {c x : ByteArray} (h : Up v c x) : 0 ≤ classI v c ∧ ∃ s ∈ supersOf v c, s = x ∨ x ∈ aboveR v s := by
 cases h with
 | one e => exact ⟨e.1, x, e.2, .inl rfl⟩
 | step e k => exact ⟨e.1, _, e.2, .inr ((above_iff v _ x).2 k)⟩
open Go.RowKit
theorem needsR_out {v : En} {inst : Int} {t : Ty} (h : inst < 0 ∨ v.ins.length ≤ inst) : needsR v inst t = [] := by
 unfold needsR
 cases hx : v.ins[inst.toNat]? with
 | none => rfl
 | some x =>
  have := get_lt hx
  simp only []
  rw [if_pos (.inl (by omega))]
theorem needsR_in {v : En} {i : Nat} {y : In} (hy : v.ins[i]? = some y) (t : Ty) : needsR v i t = if t.kind ≠ 3 ∨ t.kids.length ≠ y.hd.kids.length then [] else y.cx.map fun p => Pr.mk p.c (p.t.turn (putO (varsR y) t.kids)) := by
 unfold needsR
 rw [show (i : Int).toNat = i by omega, hy]
 simp only []
 by_cases q : t.kind ≠ 3 ∨ t.kids.length ≠ y.hd.kids.length
 ·rw [if_pos q, if_pos (.inr q)]
 ·rw [if_neg q, if_neg (fun e => e.elim (by omega) q)]
theorem Needs_c (v : En) (hv : EnG v) (inst : Int) (t : Ty) (ht : t.size ≤ 1000000) : PCall Tryz.prog 17 [.agg v.cells, .val (.int .i64 inst), .agg t.cells] (.seq 5 (Pr.cellss (needsR v inst t))) := by
 by_cases h : inst < 0 ∨ v.ins.length ≤ inst
 ·rw [needsR_out h]; exact Needs_out v inst t h
 ·obtain ⟨i, rfl⟩ : ∃ i : Nat, inst = i := ⟨inst.toNat, by omega⟩
  obtain ⟨y, hy⟩ := Yx (l := v.ins) (i := i) (by omega)
  rw [needsR_in hy]; exact Needs_in v hv i y hy t ht
end Go.Proofs.YtknodnfbaofngaaGreat
namespace Go.Proofs.YtknodnfbaofngaaGreat
inductive Pf where
 | mk (k : Int) (n : Int) (c : ByteArray) (ks : List Pf)
def Pf.k : Pf → Int | .mk k _ _ _ => k
def Pf.n : Pf → Int | .mk _ n _ _ => n
def Pf.c : Pf → ByteArray | .mk _ _ c _ => c
def Pf.ks : Pf → List Pf | .mk _ _ _ ks => ks
mutual
def Pf.size : Pf → Nat
 | .mk _ _ _ ks => 1 + Pf.sizes ks
def Pf.sizes : List Pf → Nat
 | [] => 0
 | t :: ts => t.size + Pf.sizes ts
end
theorem Pf.size_mem {t : Pf} : ∀ {ts : List Pf}, t ∈ ts → t.size ≤ Pf.sizes ts
 | [], h => by simp at h
 | u :: ts, h => by
  rw [Pf.sizes]
  rcases List.mem_cons.1 h with rfl | h
  ·omega
  ·have := Pf.size_mem h; omega
mutual
def Pf.cells : Pf → List AV
 | .mk k n c ks => [.val (.int .i64 k), .val (.int .i64 n), .val (.string c), .seq 4 (Pf.cellss ks)]
def Pf.cellss : List Pf → List (List AV)
 | [] => []
 | t :: ts => t.cells :: Pf.cellss ts
end
theorem Pf.cellss_map : ∀ ts : List Pf, Pf.cellss ts = ts.map Pf.cells
 | [] => by simp [Pf.cellss]
 | t :: ts => by simp [Pf.cellss, Pf.cellss_map ts]
theorem Pf.cellss_len (ts : List Pf) : (Pf.cellss ts).length = ts.length := by rw [Pf.cellss_map]; simp
theorem Pf.cellss_get {ts : List Pf} {i : Nat} {t : Pf} (h : ts[i]? = some t) : (Pf.cellss ts)[i]? = some t.cells := by rw [Pf.cellss_map]; simp [h]
theorem Pf.cellss_app (a b : List Pf) : Pf.cellss (a ++ b) = Pf.cellss a ++ Pf.cellss b := by simp [Pf.cellss_map]
theorem Pf.cellss_app' (a : List Pf) (x : Pf) : Pf.cellss (a ++ [x]) = Pf.cellss a ++ [x.cells] := by simp [Pf.cellss_map]
theorem Pf.cells_len (x : Pf) : x.cells.length = 4 := by cases x; simp [Pf.cells]
/- equality that the kernel can evaluate -/
mutual
def Ty.eqb : Ty → Ty → Bool
 | .mk k s n ks, .mk k' s' n' ks' => decide (k = k') && sameB s s' && decide (n = n') && Ty.eqbs ks ks'
def Ty.eqbs : List Ty → List Ty → Bool
 | [], [] => true
 | t :: ts, u :: us => t.eqb u && Ty.eqbs ts us
 | _, _ => false
end
mutual
theorem Ty.eqb_iff : ∀ a b : Ty, a.eqb b = true ↔ a = b
 | .mk k s n ks, .mk k' s' n' ks' => by
  rw [Ty.eqb]
  simp only [Bool.and_eq_true, decide_eq_true_eq, Wz, Ty.eqbs_iff ks ks', Ty.mk.injEq, and_assoc]
theorem Ty.eqbs_iff : ∀ a b : List Ty, Ty.eqbs a b = true ↔ a = b
 | [], [] => by simp [Ty.eqbs]
 | [], _ :: _ => by simp [Ty.eqbs]
 | _ :: _, [] => by simp [Ty.eqbs]
 | t :: ts, u :: us => by
  rw [Ty.eqbs]
  simp only [Bool.and_eq_true, Ty.eqb_iff t u, Ty.eqbs_iff ts us, List.cons.injEq]
end
def prB (a b : Pr) : Bool := sameB a.c b.c && a.t.eqb b.t
theorem prB_iff {a b : Pr} : prB a b = true ↔ a = b := by
 obtain ⟨c, t⟩ := a
 obtain ⟨d, u⟩ := b
 unfold prB
 simp only [Bool.and_eq_true, Wz, Ty.eqb_iff, Pr.c, Pr.t, Pr.mk.injEq]
/- the way up -/
def upI (v : En) (to c : ByteArray) : Int := findI (fun s => sameB s to || hasB (aboveR v s) to) (supersOf v c) 0
def climbF (v : En) (to : ByteArray) : Nat → ByteArray → Pf → Pf
 | 0, _, x => x
 | n + 1, c, x => if c = to then x else match (supersOf v c)[(upI v to c).toNat]? with
  | none => x
  | some s => climbF v to n s (.mk 2 (upI v to c) c [x])
theorem up_at {v : En} {to c : ByteArray} (h : to ∈ aboveR v c) : ∃ s, 0 ≤ upI v to c ∧ 0 ≤ classI v c ∧ (supersOf v c)[(upI v to c).toNat]? = some s ∧ Edge v c s ∧ (s = to ∨ to ∈ aboveR v s) := by
 obtain ⟨h1, s, hs, h2⟩ := up_next ((above_iff v c to).1 h)
 obtain ⟨i, hi⟩ := List.mem_iff_getElem?.1 hs
 have h3 := (findI_min (fun s => sameB s to || hasB (aboveR v s) to) (supersOf v c) 0 i s hi (by simp only [Bool.or_eq_true, Wz, hasB_iff]; exact h2)).2
 obtain ⟨y, h4, h5, _⟩ := findI_get _ _ _ h3
 simp only [Bool.or_eq_true, Wz, hasB_iff] at h5
 exact ⟨y, h3, h1, h4, ⟨h1, Uh h4⟩, h5⟩
def upF (v : En) (c to : ByteArray) (x : Pf) : Pf := climbF v to (high v c + 1) c x
/- the document's Prove -/
def pf0 : Pf := .mk 0 0 kE []
def givI (gs : List Pr) (p : Pr) : Int := findI (fun g => prB g p) gs 0
def supI (v : En) (gs : List Pr) (p : Pr) : Int := findI (fun (g : Pr) => g.t.eqb p.t && hasB (aboveR v g.c) p.c) gs 0
def supP (v : En) (gs : List Pr) (p : Pr) : Pf × Bool := match gs[(supI v gs p).toNat]? with
 | none => (pf0, false)
 | some g => if supI v gs p < 0 then (pf0, false) else (upF v g.c p.c (.mk 1 (supI v gs p) kE []), true)
def proveF (v : En) (gs : List Pr) : Nat → Pr → Pf × Bool
 | 0, _ => (pf0, false)
 | n + 1, p => if 0 ≤ givI gs p then (.mk 1 (givI gs p) kE [], true)
  else if fitsR v p = true ∧ ((needsR v (instI v p.c p.t.name) p.t).all fun q => (proveF v gs n q).2) = true then (.mk 3 (instI v p.c p.t.name) kE ((needsR v (instI v p.c p.t.name) p.t).map fun q => (proveF v gs n q).1), true)
  else supP v gs p
theorem EnC.needs_size {v : En} (hv : EnC v) {i : Int} {t : Ty} {q : Pr} (h : q ∈ needsR v i t) : q.t.size < t.size := by
 unfold needsR at h
 cases hx : v.ins[i.toNat]? with
 | none => rw [hx] at h; simp at h
 | some x =>
  rw [hx] at h
  simp only [] at h
  split at h
  ·simp at h
  rename_i hc
  obtain ⟨p, hp, rfl⟩ := List.mem_map.1 h
  have hm := Uh hx
  have hvar := hv.var x hm p hp
  obtain ⟨c, s, rfl⟩ := hv.g.cv x hm p hp
  have h1 := (firstAt_nonneg s (varsR x) 0).2 hvar
  have h2 := firstAt_lt s (varsR x) 0
  have h3 : (varsR x).length = t.kids.length := by unfold varsR; rw [List.length_map]; omega
  obtain ⟨j, hj⟩ : ∃ j : Nat, firstAt s (varsR x) 0 = j := ⟨_, (Int.toNat_of_nonneg h1).symm⟩
  obtain ⟨y, hy⟩ := Yx (l := t.kids) (i := j) (by omega)
  show ((Ty.mk 1 s 0 []).turn (putO (varsR x) t.kids)).size < t.size
  rw [Ty.turn_some (by rw [putO_in hj]; exact hy)]
  exact Ty.size_kid (Uh hy)
open Go.RowKit
mutual
def Pf.cnt : Pf → Int → Int
 | .mk _ _ _ ks, most => Pf.cnts ks 1 most
def Pf.cnts : List Pf → Int → Int → Int
 | [], n, _ => n
 | t :: ts, n, most => if n < most then Pf.cnts ts (n + t.cnt (most - n)) most else n
end
mutual
theorem Pf.cnt_bd : ∀ (t : Pf) (m : Int), 1 ≤ m → 1 ≤ t.cnt m ∧ t.cnt m ≤ m
 | .mk k n c ks, m, h => by
  rw [Pf.cnt]
  exact Pf.cnts_bd ks 1 m (by omega) h
theorem Pf.cnts_bd : ∀ (ts : List Pf) (n m : Int), 1 ≤ n → n ≤ m → 1 ≤ Pf.cnts ts n m ∧ Pf.cnts ts n m ≤ m
 | [], n, m, h, h' => by rw [Pf.cnts]; omega
 | t :: ts, n, m, h, h' => by
  rw [Pf.cnts]
  split
  ·have hb := Pf.cnt_bd t (m - n) (by omega)
   exact Pf.cnts_bd ts (n + t.cnt (m - n)) m (by omega) (by omega)
  ·omega
end
set_option maxHeartbeats 4000000 in
set_option maxRecDepth 100000 in
theorem nodes_c (d : Nat) : ∀ (t : Pf) (most : Int), t.size ≤ d → 1 ≤ most → most ≤ 1000000 → PCall Tryz.prog 22 [.agg t.cells, .val (.int .i64 most)] (.val (.int .i64 (t.cnt most))) := by
 induction d with
 | zero => intro t most hd; cases t; simp [Pf.size] at hd
 | succ d ih =>
  rintro ⟨k, n, s, ks⟩ most hd h1 h2
  have hl := Pf.cellss_len ks
  rw [Pf.size] at hd
  refine Zw Tryz.func22 J (by kernel_rfl) J (Uc J) ?_
  refine Ye ?_
  refine c_lena (t := 0) (j := 3) J J (.seq _ _) (fun hmax => ?_)
  refine Zg (Zc (Za 2 J J J (Yu (cs' := [_, _, _, _]) J J J J (Za 4 J J J (Ze J J (Vp (Zb (Zg (Zc (Za 5 J J J (Ze J J (Vp (Zb (Zg (Zg (Zc ?_))))))))))))))))
  refine Za 6 J J J (Ze J J (Vp (Zb (Zz ?_))))
  apply Xl [0, 3, 5, 6, 7, 8, 9, 10, 11, 12, 13, 14, 15, 16, 17, 18, 19, 20, 21, 22, 23, 24, 25, 26, 27, 28, 29] (σ := Nat × Int) (fun zz => match zz with | (i, m) => [(5, .val (.int .i64 m)), (6, .val (.int .i64 i))]) (fun zz => match zz with | (i, m) => i ≤ ks.length ∧ 1 ≤ m ∧ m ≤ most ∧ Pf.cnts (ks.drop i) m most = Pf.cnt (.mk k n s ks) most) (fun zz => match zz with | (i, m) => ks.length - i) ((0, 1))
  ·repeat' (first | exact Uf | apply Ud rfl | apply Ue rfl)
  ·exact ⟨Nat.zero_le _, by omega, h1, by rw [List.drop_zero, Pf.cnt]⟩
  ·exact by4
  rintro ⟨i, m⟩ hI
  try dsimp only [List.cons_append, List.nil_append] at hI ⊢
  obtain ⟨hi, m1, m2, hc⟩ := hI
  refine Zg (Zg (Xm 16 (i < ks.length ∧ m < most) ?_ _ _ J ?_))
  ·skip
   refine Za 7 J J J (Zd J J (Za 8 J J J (Zj J tf_30_3 J J (Za 9 J J J (Zp J ta_28 J J ?_)))))
   refine Za 10 J J J (Yy J tu_28 J (.seq _ _) (fun n10 => ?_))
   refine Za 11 J J J (Yt J J J ?_); intro c11 h11
   refine Za 12 J J J (Zd J J ?_)
   rcases Zi h11 with ⟨rfl, g11⟩ | ⟨rfl, g11⟩
   ·skip
    refine Zk 13 J J J J J (Zk 14 J J J J J (Zk 15 J J J J J (Za 16 J J J (Zn J J J (Vp (Ua J ?_ by5 by3))))))
    simp_all; omega
   ·skip
    refine Zl 13 J J J J J (Zd J J (Zl 14 J J J J J (Zd J J (Zl 15 J J J J J (Yt J J J ?_))))); intro c15 h15
    refine Za 16 J J J (Zn J J J (Vp (Ua J ?_ by5 by3)))
    simp_all; done
  intro c16 h16
  refine Zb ?_
  rcases Zi h16 with ⟨rfl, g16⟩ | ⟨rfl, g16⟩
  ·refine Zr J (Xc (Xd (Xv (Xe (Zb (Zg (Zc (Za 30 J J J (Zd J J (Za 4 J J J (Ze J J (Vp (Zb (Ya (Yh J J (Vw _) by3 ⟨?_, J⟩)))))))))))))))
   rw [← hc]
   by_cases e : i < ks.length
   ·obtain ⟨x, hx⟩ := Yx e
    rw [Xp hx, Pf.cnts, if_neg (fun q => g16 ⟨e, q⟩)]
   ·rw [List.drop_eq_nil_of_le (by omega), Pf.cnts]
  ·refine Zt J (Zv (Zb (Zg (Zz ?_))))
   obtain ⟨⟨k', n', s', ks'⟩, hx⟩ := Yx g16.1
   have hcx := Pf.cellss_get hx
   have hsz := Pf.size_mem (Uh hx)
   have hb := Pf.cnt_bd (.mk k' n' s' ks') (most - m) (by omega)
   refine Zc (Za 19 J J J (Zd J J (Za 20 J J J (Zj J tf_30_3 J J (Za 21 J J J (Zp J ta_28 J J (Za 22 J J J (Zd J J (Za 23 J J J (Yc J te_28 J (.seq _ _) J J (hcx) ?_))))))))))
   refine Za 24 J J J (Yd (cs' := [_, _, _, _]) J Vk J J J (Za 25 J J J (Zd J J (Za 26 J J J (Zd J J (Za 27 J J J (op_sub J J J (Ug _ (by omega)) ?_)))))))
   refine Za 28 J J J (Yp (xs := [.tmp 24, .tmp 27]) J J (ih (.mk k' n' s' ks') (most - m) (by omega) (by omega) (by omega)) by1 ?_)
   refine Za 29 J J J (Yw J J J (Ug _ (by omega)) ?_)
   refine Za 5 J J J (Ze J J (Vp (Yv (Zb (Zc (Za 17 J J J (Zd J J (Za 18 J J J (Yw J J J (Ug _ (by omega)) ?_)))))))))
   refine Za 6 J J J (Ze J J (Vp (Xa ?_)))
   refine ⟨(i + 1, m + Pf.cnt (.mk k' n' s' ks') (most - m)), ⟨by show i + 1 ≤ ks.length; omega, by show 1 ≤ m + _; omega, by show m + _ ≤ most; omega, ?_⟩, by show ks.length - (i + 1) < ks.length - i; omega, by4, by3⟩
   show Pf.cnts (ks.drop (i + 1)) (m + Pf.cnt (.mk k' n' s' ks') (most - m)) most = _
   rw [← hc, Xp hx, Pf.cnts, if_pos g16.2]
structure Ask where
 gs : List Pr
 p : Pr
 x : Pf
 deep : Int
 most : Int
def Ask.cells (a : Ask) : List AV := .seq 5 (Pr.cellss a.gs) :: (a.p.cells ++ (a.x.cells ++ [.val (.int .i64 a.deep), .val (.int .i64 a.most)]))
def Ask.small (a : Ask) : Prop := (∀ g ∈ a.gs, g.t.small 30 = true) ∧ a.gs.length ≤ 6 ∧ a.p.t.small 30 = true ∧ a.x.cnt 201 ≤ 200
set_option maxHeartbeats 4000000 in
set_option maxRecDepth 100000 in
theorem askSmall_c (a : Ask) : BCall Tryz.prog 10 [.agg a.cells] a.small := by
 obtain ⟨gs, ⟨pc, ⟨pk, ps, pn, pl⟩⟩, ⟨xk, xn, xc, xl⟩, deep, most⟩ := a
 have hl := Pr.cellss_len gs
 have H1 := Small_c (.mk pk ps pn pl) 30 (by decide) (by decide)
 have H2 := nodes_c _ (.mk xk xn xc xl) 201 (Nat.le_refl _) (by decide) (by decide)
 have H3 := fun g : Pr => Small_c g.t 30 (by decide) (by decide)
 unfold Ask.small
 simp only [Ask.cells, Pr.cells, Ty.cells, Pf.cells, Pr.t, List.cons_append, List.nil_append] at *
 obtain ⟨nx, hnx⟩ : ∃ z, (Pf.mk xk xn xc xl).cnt 201 = z := ⟨_, rfl⟩
 rw [hnx] at H2 ⊢
 refine Zw Tryz.func10 J (by kernel_rfl) J (Uc J) ?_
 refine Ye ?_
 refine c_lena (t := 0) (j := 0) J J (.seq _ _) (fun hmax => ?_)
 refine Zg (Zc (Za 1 J J J (Yu (cs' := [_, _, _, _, _, _, _, _, _, _, _, _]) J J J J (Za 2 J J J (Ze J J (Vp (Zb (Zg (Zg (Zc (Za 5 J J J (Zj J tf_32_0 J J (Za 6 J J J (Zp J ta_22 J J ?_))))))))))))))
 refine Za 7 J J J (Yy J tu_22 J (.seq _ _) (fun n7 => ?_))
 refine Za 8 J J J (Zd J J (Vp (Zb (Zz ?_))))
 apply Xl [0, 2, 3, 4, 5, 8, 9, 10, 11, 12, 13, 14, 15, 16] (σ := Nat) (fun zz => match zz with | i => [(8, .val (.int .i64 i))]) (fun zz => match zz with | i => i ≤ gs.length ∧ ∀ g ∈ gs.take i, g.t.small 30 = true) (fun zz => match zz with | i => gs.length - i) (0)
 ·repeat' (first | exact Uf | apply Ud rfl | apply Ue rfl)
 ·exact ⟨Nat.zero_le _, by simp⟩
 ·exact by4
 rintro i hI
 try dsimp only [List.cons_append, List.nil_append] at hI ⊢
 obtain ⟨hi, hf⟩ := hI
 refine Zg (Zc (Za 9 J J J (Yt J J J ?_))); intro c9 h9
 refine Vp (Zb (Zg ?_))
 rcases Zi h9 with ⟨rfl, g9⟩ | ⟨rfl, g9⟩
 ·refine Zr J (Xc (Xd (Xv (Xe (Zb (Zg ?_))))))
  rw [List.take_of_length_le (by omega)] at hf
  refine Xm 2 (gs.length ≤ 6 ∧ (Ty.mk pk ps pn pl).small 30 = true ∧ nx ≤ 200) ?_ _ _ J ?_
  ·skip
   refine Za 17 J J J (Zj J tf_32_0 J J (Za 18 J J J (Zp J ta_22 J J ?_)))
   refine Za 19 J J J (Yy J tu_22 J (.seq _ _) (fun n19 => ?_))
   refine Za 20 J J J (op_leq J J J ?_); intro c20 h20
   refine Za 21 J J J (Zd J J ?_)
   rcases Zi h20 with ⟨rfl, g20⟩ | ⟨rfl, g20⟩
   ·skip
    refine Zk 22 J J J J J (Zk 23 J J J J J (Zk 24 J J J J J (Zk 25 J J J J J (Za 26 J J J (Zn J J J (Za 27 J J J (Zd J J ?_)))))))
    refine Zk 28 J J J J J (Zk 29 J J J J J (Zk 30 J J J J J (Zk 31 J J J J J (Za 32 J J J (Zn J J J (Za 2 J J J (Ze J J ?_)))))))
    refine Vp (Ua J ?_ by5 by3)
    clear H1 H2 H3; first | (simp_all; done) | (simp_all; omega) | grind
   ·skip
    refine Zl 22 J J J J J (Zj J tf_32_1 J J (Zl 23 J J J J J (Zj J Wn J J (Zl 24 J J J J J (Yd (cs' := [_, _, _, _]) J Xx J J J (Zl 25 J J J J J (Yf (xs := [.tmp 24, .const (.int .i64 30)]) J J (H1) by1 ?_))))))); intro c25 h25
    refine Za 26 J J J (Zn J J J (Za 27 J J J (Zd J J ?_)))
    rcases Zi h25 with ⟨rfl, g25⟩ | ⟨rfl, g25⟩
    ·skip
     refine Zk 28 J J J J J (Zk 29 J J J J J (Zk 30 J J J J J (Zk 31 J J J J J (Za 32 J J J (Zn J J J (Za 2 J J J (Ze J J ?_)))))))
     refine Vp (Ua J ?_ by5 by3)
     clear H1 H2 H3; first | (simp_all; done) | (simp_all; omega) | grind
    ·skip
     refine Zl 28 J J J J J (Zj J tf_32_2 J J (Zl 29 J J J J J (Yd (cs' := [_, _, _, _]) J Vk J J J (Zl 30 J J J J J (Yp (xs := [.tmp 29, .const (.int .i64 201)]) J J (H2) by1 ?_)))))
     refine Zl 31 J J J J J (op_leq J J J ?_); intro c31 h31
     refine Za 32 J J J (Zn J J J (Za 2 J J J (Ze J J (Vp (Ua J ?_ by5 by3)))))
     clear H1 H2 H3; first | (simp_all; done) | (simp_all; omega) | grind
  intro c2 h2
  refine Zb (Ya ?_)
  exact Yh J J (Vw _) by3 ⟨⟨_, h2.trans ⟨fun q => ⟨hf, q⟩, fun q => q.2⟩, J⟩, J⟩
 ·refine Zt J (Zv (Zb (Zg (Zz (Zg ?_)))))
  obtain ⟨⟨gc, ⟨gtk, gts, gtn, gtl⟩⟩, hxg⟩ := Yx (l := gs) (i := i) by7
  have hcg := Pr.cellss_get hxg
  have hmg := Uh hxg
  have HGg := H3 (Pr.mk gc ⟨gtk, gts, gtn, gtl⟩)
  simp only [Ty.cells] at HGg
  have hsg := Wj hxg
  refine Zc (Za 10 J J J (Yc J te_22 J (.seq _ _) J J (hcg) (Za 11 J J J (Yd (cs' := [_, _, _, _, _]) J ta_27 J J J (Za 4 J J J (Zy (cs' := [_, _, _, _, _]) J tz_27 J J ?_)))))); intro b4
  refine Zs J J (Zo (cs' := [_, _, _, _, _]) (i := 0) J ts_27 J J J J J (Uc J) J (Vp (Zb (Zg (Zc (Za 12 J J J (Zh J Wn J (Za 13 J J J (Zx (cs' := [_, _, _, _]) (i := 0) J Xx J J J J (Za 14 J J J (Yf (xs := [.tmp 13, .const (.int .i64 30)]) J J (HGg) by1 ?_))))))))))); intro c14 h14
  refine Za 15 J J J (Xt J J ?_); intro c15 h15
  try replace h15 := nott h15 h14
  refine Vp (Zb ?_)
  rcases Zi h15 with ⟨rfl, g15⟩ | ⟨rfl, g15⟩
  ·refine Zr J (Zv (Yv (Zb (Zc (Za 16 J J J (Yw J J J (Ug _ (by omega)) ?_))))))
   refine Za 8 J J J (Zd J J (Vp (Xa ?_)))
   exact ⟨i + 1, ⟨by show i + 1 ≤ gs.length; omega, fun g hg => by rw [hsg] at hg; exact (List.mem_append.1 hg).elim (hf g) (fun q => by rw [List.mem_singleton.1 q]; exact Classical.not_not.1 g15)⟩, by show gs.length - (i + 1) < gs.length - i; omega, by4, by3⟩
  ·refine Zt J (Zg (Zc (Za 2 J J J (Ze J J (Vp (Zb (Ya ?_)))))))
   exact Yh J J (Vw _) by3 ⟨⟨false, by simp only [Bool.false_eq_true, false_iff]; exact fun q => g15 (q.1 _ hmg), J⟩, J⟩
theorem rel_agg' {F : EH} {v : Value} {cs : List AV} (hl : cs.length ≠ 1) (h : Rels F cs v.cells.toList) (h1 : Ones v.cells.toList) : Rel F (.agg cs) v := by
 refine rel_agg ?_ h h1
 have := h.len
 cases v <;> first | exact ⟨_, rfl⟩ | (exfalso; exact hl (by rw [this]; rfl))
theorem cellsOf_pr : Tryz.prog.cellsOf 27 = 5 := by kernel_rfl
theorem cellsOf_pf : Tryz.prog.cellsOf 30 = 4 := by kernel_rfl
theorem shape_pr {fuel : Nat} {cs : List AV} (h : ShapeC Tryz.prog fuel 27 cs) : ∃ t : Pr, cs = t.cells := by
 obtain ⟨n, hn, h⟩ := shape_struct Tryz.underlying27 h
 simp only [ShapeF] at h
 obtain ⟨a1, b1, rfl, h1, a2, b2, rfl, h2, rfl⟩ := h
 obtain ⟨s, _, rfl⟩ := shape_str Wp h1
 obtain ⟨t, rfl⟩ := shape_ty _ _ h2
 exact ⟨.mk s t, by simp [Pr.cells]⟩
theorem shape_prs {fuel : Nat} {cs : List AV} (h : ShapeC Tryz.prog fuel 22 cs) : ∃ ts : List Pr, cs = [.seq 5 (Pr.cellss ts)] := by
 obtain ⟨n', es, _, rfl, h5⟩ := shape_slice tu_22 h
 obtain ⟨ts, rfl⟩ := pick_all (f := Pr.cells) (fun x hx => shape_pr (h5 x hx))
 exact ⟨ts, by rw [cellsOf_pr, ← Pr.cellss_map]⟩
theorem shape_pf (fuel : Nat) : ∀ cs, ShapeC Tryz.prog fuel 30 cs → ∃ t : Pf, cs = t.cells := by
 induction fuel using Nat.strongRecOn with
 | _ fuel ih =>
  intro cs h
  obtain ⟨n, hn, h⟩ := shape_struct Tryz.underlying30 h
  simp only [ShapeF] at h
  obtain ⟨a1, b1, rfl, h1, a2, b2, rfl, h2, a3, b3, rfl, h3, a4, b4, rfl, h4, rfl⟩ := h
  obtain ⟨k, _, rfl⟩ := shape_int tu_3 h1
  obtain ⟨m, _, rfl⟩ := shape_int tu_3 h2
  obtain ⟨s, _, rfl⟩ := shape_str Wp h3
  obtain ⟨n', es, hn', rfl, h5⟩ := shape_slice tu_28 h4
  obtain ⟨ts, rfl⟩ := pick_all (f := Pf.cells) (fun x hx => ih n' (by omega) x (h5 x hx))
  refine ⟨.mk k m s ts, ?_⟩
  rw [cellsOf_pf, ← Pf.cellss_map]
  simp [Pf.cells]
theorem shape_ask {fuel : Nat} {cs : List AV} (h : ShapeC Tryz.prog fuel 32 cs) : ∃ a : Ask, cs = a.cells := by
 obtain ⟨n, hn, h⟩ := shape_struct Tryz.underlying32 h
 simp only [ShapeF] at h
 obtain ⟨a1, b1, rfl, h1, a2, b2, rfl, h2, a3, b3, rfl, h3, a4, b4, rfl, h4, a5, b5, rfl, h5, rfl⟩ := h
 obtain ⟨gs, rfl⟩ := shape_prs h1
 obtain ⟨p, rfl⟩ := shape_pr h2
 obtain ⟨x, rfl⟩ := shape_pf _ _ h3
 obtain ⟨d, _, rfl⟩ := shape_int tu_3 h4
 obtain ⟨m, _, rfl⟩ := shape_int tu_3 h5
 exact ⟨⟨gs, p, x, d, m⟩, by simp [Ask.cells]⟩
theorem Ask.cells_len (a : Ask) : a.cells.length = 12 := by
 obtain ⟨gs, ⟨pc, ⟨pk, ps, pn, pl⟩⟩, ⟨xk, xn, xc, xl⟩, deep, most⟩ := a
 rfl
abbrev S12 : List TypeId := [9, 3, 25, 23, 27, 22, 30, 28, 32]
theorem closed12 : closedT Tryz.prog S12 = true := by kernel_rfl
end Go.Proofs.YtknodnfbaofngaaGreat
namespace Go.Proofs.YtknodnfbaofngaaGreat
def fitsP (y : In) (p : Pr) : Prop := y.c = p.c ∧ p.t.kind = 3 ∧ y.hd.name = p.t.name ∧ y.hd.kids.length = p.t.kids.length
mutual
def holdsP (v : En) (gs : List Pr) : Pf → Pr → Prop
 | .mk k n c ks, p =>
  (k = 1 ∧ c = kE ∧ ks.length = 0 ∧ 0 ≤ n ∧ gs[n.toNat]? = some p) ∨
  (k = 2 ∧ 0 ≤ classI v c ∧ 0 ≤ n ∧ (supersOf v c)[n.toNat]? = some p.c ∧ holdsL v gs ks [.mk c p.t]) ∨
  (k = 3 ∧ c = kE ∧ 0 ≤ n ∧ (∃ y, v.ins[n.toNat]? = some y ∧ fitsP y p) ∧ holdsL v gs ks (needsR v n p.t))
def holdsL (v : En) (gs : List Pr) : List Pf → List Pr → Prop
 | [], [] => True
 | x :: xs, q :: qs => holdsP v gs x q ∧ holdsL v gs xs qs
 | _, _ => False
end
theorem holdsL_len {v : En} {gs : List Pr} : ∀ {xs : List Pf} {qs : List Pr}, holdsL v gs xs qs → xs.length = qs.length
 | [], [], _ => rfl
 | [], _ :: _, h => by simp [holdsL] at h
 | _ :: _, [], h => by simp [holdsL] at h
 | x :: xs, q :: qs, h => by
  rw [holdsL] at h
  simp [holdsL_len h.2]
theorem holdsL_one {v : En} {gs : List Pr} {ks : List Pf} {q : Pr} : holdsL v gs ks [q] ↔ ∃ x, ks = [x] ∧ holdsP v gs x q := by
 constructor
 ·intro h
  have hl := holdsL_len h
  obtain ⟨x, rfl⟩ := List.length_eq_one_iff.1 hl
  rw [holdsL] at h
  exact ⟨x, J, h.1⟩
 ·rintro ⟨x, rfl, h⟩
  rw [holdsL]
  exact ⟨h, by rw [holdsL]; trivial⟩
theorem holds_1 {v : En} {gs : List Pr} {n : Int} {c : ByteArray} {ks : List Pf} {p : Pr} : holdsP v gs (.mk 1 n c ks) p ↔ (c = kE ∧ ks.length = 0 ∧ 0 ≤ n ∧ gs[n.toNat]? = some p) := by
 rw [holdsP]; simp
theorem holds_2 {v : En} {gs : List Pr} {n : Int} {c : ByteArray} {ks : List Pf} {p : Pr} : holdsP v gs (.mk 2 n c ks) p ↔ (0 ≤ classI v c ∧ 0 ≤ n ∧ (supersOf v c)[n.toNat]? = some p.c ∧ holdsL v gs ks [.mk c p.t]) := by
 rw [holdsP]; simp
theorem holds_3 {v : En} {gs : List Pr} {n : Int} {c : ByteArray} {ks : List Pf} {p : Pr} : holdsP v gs (.mk 3 n c ks) p ↔ (c = kE ∧ 0 ≤ n ∧ (∃ y, v.ins[n.toNat]? = some y ∧ fitsP y p) ∧ holdsL v gs ks (needsR v n p.t)) := by
 rw [holdsP]; simp
theorem holds_0 {v : En} {gs : List Pr} {k n : Int} {c : ByteArray} {ks : List Pf} {p : Pr} (h1 : k ≠ 1) (h2 : k ≠ 2) (h3 : k ≠ 3) : ¬ holdsP v gs (.mk k n c ks) p := by
 rw [holdsP]; simp [h1, h2, h3]
open Go.RowKit
theorem climbF_end (v : En) (to : ByteArray) (n : Nat) (x : Pf) : climbF v to (n + 1) to x = x := by rw [climbF, if_pos rfl]
theorem climbF_go {v : En} {to c s : ByteArray} (n : Nat) (x : Pf) (h : ¬ c = to) (hs : (supersOf v c)[(upI v to c).toNat]? = some s) : climbF v to (n + 1) c x = climbF v to n s (.mk 2 (upI v to c) c [x]) := by
 rw [climbF, if_neg h, hs]
set_option maxHeartbeats 4000000 in
set_option maxRecDepth 100000 in
theorem up1_c (v : En) (hv : EnC v) (to : ByteArray) (b9 : Nat) : ∀ (n : Nat) (c : ByteArray) (x : Pf), high v c < n → (c = to ∨ to ∈ aboveR v c) →
    KCall Tryz.prog 67 [.val (.string c), .agg x.cells, .cptr [.val (.string to)], .cptr v.cells, .ptr b9 0] [.loc b9 [.clo (.func 67) [] [.cptr [.val (.string to)], .cptr v.cells, .ptr b9 0]]] (.agg (climbF v to n c x).cells)
 | 0, c, x, h, _ => by omega
 | n + 1, c, x, h, hup => by
  have IH := fun s y a b => up1_c v hv to b9 n s y a b
  have HC := tClass_c v c
  have HA := fun s => (tAbove_c v hv.g.b.sup s).pure
  have HH := fun s => ContainsS_c (aboveR v s) to
  obtain ⟨r, hr⟩ : ∃ r, climbF v to (n + 1) c x = r := ⟨_, rfl⟩
  rw [hr]
  by_cases hne : c = to
  ·subst hne
   rw [climbF_end] at hr
   subst hr
   obtain ⟨xk, xn, xc, xl⟩ := x
   obtain ⟨da, cl, ins⟩ := v
   simp only [En.cells, Pf.cells]
   refine Zw Tryz.func67 J (by kernel_rfl) J (Uc J) ?_
   refine Ye (Zg (Zc (Za 6 J J J (Yu (cs' := [_, _, _, _]) J J J J (Za 7 J J J (Zy (cs' := [_, _, _, _]) J tz_30 J J ?_)))))); intro b7
   refine Vp (Zb (Zg (Zg (Zc (Za 12 J J J (Zd J J (Za 13 J J J (Zp J Yz J J (Za 14 J J J (Xu J J J ?_)))))))))); intro c14 h14
   refine Vp (Zb ?_)
   rcases Zi h14 with ⟨rfl, g14⟩ | ⟨rfl, g14⟩
   ·exact absurd J g14
   ·exact Zt J (Zg (Zc (Za 15 J J J (Yd (cs' := [_, _, _, _]) J Vk J J J (Zs J J (Zo (cs' := [_, _, _, _]) (i := 0) J ts_30 J J J J J (Uc J) J (Vp (Zb (Ya (Yl (i := 0) J J J Vk J (Vw _) (Vt _ (Vq _)) ⟨J, J⟩))))))))))
  obtain ⟨s, hu0, hc0, hsu, hed, hs⟩ := up_at (hup.resolve_left hne)
  have hlt := hv.high_lt hed
  rw [climbF_go n x hne hsu] at hr
  have IH := IH s (.mk 2 (upI v to c) c [x]) (by omega) hs
  rw [hr] at IH
  obtain ⟨cx, hcx, hcs, _⟩ := findI_get (fun (c' : Cl) => sameB c'.s c) v.cl 0 hc0
  have hci : classI v c = findI (fun (c' : Cl) => sameB c'.s c) v.cl 0 := rfl
  rw [← hci] at hcx
  have hsl : supersOf v c = cx.su := by unfold supersOf; rw [show v.cl[(classI v c).toNat]? = some cx from hcx]; rfl
  obtain ⟨ui, hui⟩ : ∃ u, upI v to c = u := ⟨_, rfl⟩
  have hud := hui
  unfold upI at hud
  rw [hui] at hu0 hsu IH
  rw [hsl] at hud hsu
  clear hci hr hui hsl hed hlt h hup
  generalize hpp : (fun s => sameB s to || hasB (aboveR v s) to) = pp at hud
  have hpq : ∀ s, pp s = true ↔ (s = to ∨ to ∈ aboveR v s) := fun s => by subst hpp; simp only [Bool.or_eq_true, Wz, hasB_iff]
  clear hpp
  generalize classI v c = ci at *
  rw [show max ci 0 = ci by omega] at HC
  obtain ⟨xk, xn, xc, xl⟩ := x
  obtain ⟨rk, rn, rc, rl⟩ := r
  generalize hav : aboveR v = av at *
  clear hav hv
  obtain ⟨da, cl, ins⟩ := v
  have hcl := Cl.cellss_len cl
  obtain ⟨ys, yv, ysu, yms, yds, yp⟩ := cx
  have hcy := Cl.cellss_get hcx
  simp only [En.cells, Pf.cells, Pf.cellss, Cl.cells, Cl.su, En.cl] at *
  have hls := Xs ysu
  have hcb : ci < cl.length := by have := get_lt hcx; omega
  refine Zw Tryz.func67 J (by kernel_rfl) J (Uc J) ?_
  refine Ye (Zg (Zc (Za 6 J J J (Yu (cs' := [_, _, _, _]) J J J J (Za 7 J J J (Zy (cs' := [_, _, _, _]) J tz_30 J J ?_)))))); intro b7
  refine Vp (Zb (Zg (Zg (Zc (Za 12 J J J (Zd J J (Za 13 J J J (Zp J Yz J J (Za 14 J J J (Xu J J J ?_)))))))))); intro c14 h14
  refine Vp (Zb ?_)
  rcases Zi h14 with ⟨rfl, g14⟩ | ⟨rfl, g14⟩
  ·refine Zr J (Zv (Zb (Zg (Zc (Za 17 J J J (Yd (cs' := [_, _, _]) J Xy J J J (Za 18 J J J (Zd J J (Za 19 J J J (Yp (xs := [.tmp 17, .tmp 18]) J J (HC) by1 ?_))))))))))
   refine Za 16 J J J (Zd J J (Za 20 J J J (Ys J J J (Za 21 J J J (Ys J J J (Za 8 J J J (Ze J J (Za 9 J J J (Ze J J (Vp (Zb (Zg (Zg (Zc ?_))))))))))))))
   refine Za 22 J J J (Zj J Wh J J (Za 23 J J J (Zp J Vn J J (Za 24 J J J (Zd J J ?_)))))
   refine Za 25 J J J (Yc (i := ci.toNat) J te_35 J (.seq _ _) J (by first | rfl | omega) (hcy) ?_)
   refine Za 26 J J J (Zj J tf_77_2 J J (Za 27 J J J (Zp J ta_68 J J ?_)))
   refine Za 28 J J J (Yy J tu_68 J (.seq _ _) (fun n28 => ?_))
   refine Za 29 J J J (Zd J J (Vp (Zb (Zz ?_))))
   refine c_lens (t := 27) J (.seq _ _) (fun hmax => ?_)
   apply Xl [1, 5, 8, 9, 10, 11, 12, 13, 14, 15, 16, 17, 18, 19, 20, 21, 22, 23, 24, 25, 26, 29, 30, 31, 32, 33, 34, 35, 36, 37, 38, 39, 40, 41, 42, 43, 44, 45, 46, 47, 48, 49, 50, 51, 52] (σ := Nat) (fun zz => match zz with | i => [(29, .val (.int .i64 i))]) (fun zz => match zz with | i => i ≤ ysu.length ∧ findI pp (ysu.drop i) i = ui) (fun zz => match zz with | i => ysu.length - i) (0)
   ·repeat' (first | exact Uf | apply Ud rfl | apply Ue rfl)
   ·exact ⟨Nat.zero_le _, hud⟩
   ·exact by4
   rintro i hI
   try dsimp only [List.cons_append, List.nil_append] at hI ⊢
   obtain ⟨hi, hf⟩ := hI
   refine Zg (Zc (Za 30 J J J (Yt J J J ?_))); intro c30 h30
   refine Vp (Zb (Zg ?_))
   rcases Zi h30 with ⟨rfl, g30⟩ | ⟨rfl, g30⟩
   ·refine Zr J (Xc (Xd (Xv (Xe (Zb (Zg ?_))))))
    rw [Ui (by omega), findI] at hf
    exact absurd hu0 (by omega)
   ·refine Zt J (Zv (Zb (Zg (Zz (Zg ?_)))))
    obtain ⟨z, hxz⟩ := Yx (l := ysu) (i := i) by7
    have hcz := strs_get hxz
    have hmz := Uh hxz
    rw [Xp hxz, findI] at hf
    have HAz := HA z
    have HHz := HH z
    refine Zc (Za 31 J J J (Zd J J (Za 32 J J J (Yc J te_68 J (.seq _ _) J J (hcz) (Za 33 J J J (Zp J Yz J J (Za 10 J J J (Ze J J (Za 11 J J J (Ze J J ?_))))))))))
    refine Vp (Zb (Zg (Vi 43 (z = to ∨ to ∈ av z) Wr J ?_ _ _ J ?_)))
    ·skip
     refine Zm 34 J J (Zd J J ⟨J, J⟩) ?_
     refine Zm 35 J J (Zp J Yz J J ⟨J, J⟩) ?_
     refine Wb 36 J J (fun _ q => Xu J J J q) ?_; intro c36 h36
     refine Zm 37 J J (Zd J J ⟨J, J⟩) ?_
     rcases Zi h36 with ⟨rfl, g36⟩ | ⟨rfl, g36⟩
     ·skip
      refine Zu 38 J J J J (Yd (cs' := [_, _, _]) J Xy J J J ⟨J, J⟩) ?_
      refine Zu 39 J J J J (Zd J J ⟨J, J⟩) ?_
      refine Zu 40 J J J J (Yp (xs := [.tmp 38, .tmp 39]) J J (HAz) by1 ⟨J, J⟩) ?_
      refine Zu 41 J J J J (Zp J Yz J J ⟨J, J⟩) ?_
      refine Xi 42 J J J J (fun _ q => Yf (xs := [.tmp 40, .tmp 41]) J J (HHz) by1 q) ?_; intro c42 h42
      refine Zm 43 J J (Zn J J J ⟨J, J⟩) ?_
      show BoolQ _ _ _ _ _ _
      refine Ua J ?_ by5 by3
      clear HC HA HH HAz HHz IH; first | (simp_all; done) | grind
     ·skip
      refine Zf 38 J J J J (Zf 39 J J J J (Zf 40 J J J J (Zf 41 J J J J (Zf 42 J J J J (Zm 43 J J (Zn J J J ⟨J, J⟩) ?_)))))
      show BoolQ _ _ _ _ _ _
      refine Ua J ?_ by5 by3
      clear HC HA HH HAz HHz IH; first | (simp_all; done) | grind
    intro c43 h43
    refine Zb ?_
    rcases Zi h43 with ⟨rfl, g43⟩ | ⟨rfl, g43⟩
    ·refine Zr J (Zv (Yv (Zb (Zc (Za 52 J J J (Yw J J J (Ug _ (by omega)) ?_))))))
     refine Za 29 J J J (Zd J J (Vp (Xa ?_)))
     rw [if_neg (fun q => g43 ((hpq z).1 q))] at hf; exact ⟨i + 1, ⟨by show i + 1 ≤ ysu.length; omega, hf⟩, by show ysu.length - (i + 1) < ysu.length - i; omega, by4, by3⟩
    ·refine Zt J (Zg ?_)
     rw [if_pos ((hpq z).2 g43)] at hf
     subst hf
     rw [show ((i : Int)).toNat = i by omega, hxz] at hsu
     cases hsu
     refine Zc (Za 44 J J J (Zq (i := 1) J ta_124 J J J (Za 45 J J J (Zd J J (Za 46 J J J (Zd J J (Za 47 J J J (Zd J J (Za 48 J J J (Yd (cs' := [_, _, _, _]) J Vk J J J ?_))))))))))
     refine Za 49 J J J (Yi (xs := [.tmp 48]) el_28 J J J J J J (Uc J) (Za 50 J J J (Ym (ns := [0, 1, 2, 3]) (xs := [.const (.int .i64 2), .tmp 46, .tmp 47, .tmp 49]) J tz_30 J tfl_30 J J J J (Za 51 J J J (op_callvat [1] (xs := [.tmp 45, .tmp 50])  J J J J IH by1 ?_)))))
     rintro v51 M51 ⟨rfl, rfl⟩
     exact Zs J J (Zo (cs' := [_, _, _, _]) (i := 1) J ts_30 J J J J J (Uc J) J (Vp (Zb (Ya (Yl (i := 1) J J J Vk J (Vw _) by3 ⟨J, J⟩)))))
  ·exact absurd g14 hne
set_option maxHeartbeats 4000000 in
set_option maxRecDepth 100000 in
theorem up_c (v : En) (hv : EnC v) (c to : ByteArray) (x : Pf) (h : c = to ∨ to ∈ aboveR v c) : PCall Tryz.prog 33 [.agg v.cells, .val (.string c), .val (.string to), .agg x.cells] (.agg (upF v c to x).cells) := by
 have H := fun b9 => up1_c v hv to b9 (high v c + 1) c x (by omega) h
 have he : climbF v to (high v c + 1) c x = upF v c to x := rfl
 rw [he] at H
 generalize upF v c to x = r at *
 obtain ⟨xk, xn, xc, xl⟩ := x
 obtain ⟨rk, rn, rc, rl⟩ := r
 clear he hv h
 obtain ⟨da, cl, ins⟩ := v
 simp only [En.cells, Pf.cells] at H ⊢
 refine Zw Tryz.func33 J (by kernel_rfl) J (Uc J) ?_
 refine Ye (Zg (Zc (Za 4 J J J (Yu (cs' := [_, _, _]) J J J J (Za 6 J J J (Yu (cs' := [_]) J J J J (Za 7 J J J (Yu (cs' := [_, _, _, _]) J J J J (Za 8 J J J (Zy (cs' := [_, _, _, _]) J tz_30 J J ?_)))))))))); intro b8
 refine Vp (Zb (Zg (Zc (Za 9 J J J (Zy (cs' := [_]) J tz_124 J J ?_))))); intro b9
 refine Vp (Zb (Zg (Zc (Za 10 J J J (op_makeFunc (fs := []) (cs := [.tmp 6, .tmp 4, .tmp 9]) J J J (Zs J J (Zo (cs' := [_]) (i := 0) J ts_124 J J J J J (Uc J) J (Vp (Zb (Zg (Zc (Za 11 J J J (Zq (i := 0) J ta_124 J J J (Za 12 J J J (Zd J J ?_)))))))))))))))
 refine Za 13 J J J (Yd (cs' := [_, _, _, _]) J Vk J J J (Za 14 J J J (op_callvat [0] (xs := [.tmp 12, .tmp 13])  J J J J (H b9) by1 ?_)))
 rintro v14 M14 ⟨rfl, rfl⟩
 exact Zs J J (Zo (cs' := [_, _, _, _]) (i := 1) J ts_30 J J J J J (Uc J) J (Vp (Zb (Ya (Yl (i := 1) J J J Vk J (Vw _) (Vr _) ⟨J, J⟩)))))
theorem supP_hit {v : En} {gs : List Pr} {p g : Pr} {i : Nat} (hi : supI v gs p = i) (hg : gs[i]? = some g) : supP v gs p = (upF v g.c p.c (.mk 1 i kE []), true) := by
 unfold supP
 rw [hi, show ((i : Int)).toNat = i by omega, hg]
 simp only []
 rw [if_neg (by omega)]
theorem supP_no {v : En} {gs : List Pr} {p : Pr} (hi : supI v gs p < 0) : supP v gs p = (pf0, false) := by
 unfold supP
 cases gs[(supI v gs p).toNat]? with
 | none => rfl
 | some g => simp only []; rw [if_pos hi]
theorem needsR_len {v : En} (hv : EnB v) (i : Int) (t : Ty) : (needsR v i t).length ≤ 100000 := by
 unfold needsR
 cases hx : v.ins[i.toNat]? with
 | none => simp
 | some x =>
  simp only []
  have := (hv.inss x (Uh hx)).1
  split
  ·simp
  ·rw [List.length_map]; omega
set_option maxHeartbeats 4000000 in
set_option maxRecDepth 100000 in
theorem Prove1_c (x p : Pr) : BCall Tryz.prog 27 [.agg x.cells, .cptr p.cells] (prB x p = true) := by
 have H := same_c x p
 obtain ⟨xc, ⟨xk, xs, xn, xl⟩⟩ := x
 obtain ⟨pc, ⟨pk, ps, pn, pl⟩⟩ := p
 rw [show (prB (Pr.mk xc ⟨xk, xs, xn, xl⟩) (Pr.mk pc ⟨pk, ps, pn, pl⟩) = true) = ((Pr.mk xc ⟨xk, xs, xn, xl⟩) = (Pr.mk pc ⟨pk, ps, pn, pl⟩)) from propext prB_iff]
 simp only [Pr.cells, Ty.cells] at H ⊢
 refine Zw Tryz.func27 J (by kernel_rfl) J (Uc J) ?_
 refine Ye (Zg (Zc (Za 2 J J J (Yu (cs' := [_, _, _, _, _]) J J J J (Za 3 J J J (Ze J J (Vp (Zb (Zg (Zc (Za 4 J J J (Yd (cs' := [_, _, _, _, _]) J ta_27 J J J ?_))))))))))))
 refine Za 5 J J J (Yd (cs' := [_, _, _, _, _]) J ta_27 J J J (Za 6 J J J (Yf (xs := [.tmp 4, .tmp 5]) J J (H) by1 ?_))); intro c6 h6
 exact Za 3 J J J (Ze J J (Vp (Zb (Ya (Yh J J (Vw _) by3 ⟨⟨_, h6, J⟩, J⟩)))))
set_option maxHeartbeats 4000000 in
set_option maxRecDepth 100000 in
theorem Prove_c (v : En) (hv : EnC v) (gs : List Pr) : ∀ (n : Nat) (p : Pr), p.t.size < n → p.t.size ≤ 1000000 → PCall Tryz.prog 11 [.agg v.cells, .seq 5 (Pr.cellss gs), .agg p.cells] (.tup [.agg (proveF v gs n p).1.cells, .val (.bool (proveF v gs n p).2)])
 | 0, p, h, _ => by omega
 | n + 1, p, h, hz => by
  have IH := fun q a b => Prove_c v hv gs n q a b
  have HG : PCall Tryz.prog _ _ _ := IxF_Pr (fun g => prB g p) 27 [] [.cptr p.cells] gs (fun x _ => Prove1_c x p)
  have HF := fits_c v p
  have HN := Needs_c v hv.g (instI v p.c p.t.name) p.t hz
  have HS := fun (g : Pr) => tSameType_c g.t p.t
  have HA := fun (g : Pr) => (tAbove_c v hv.g.b.sup g.c).pure
  have HH := fun (g : Pr) => ContainsS_c (aboveR v g.c) p.c
  have HU0 := fun (g : Pr) (i : Nat) h => up_c v hv g.c p.c (.mk 1 i kE []) (.inr h)
  obtain ⟨r, hr⟩ : ∃ r, proveF v gs (n + 1) p = r := ⟨_, rfl⟩
  rw [hr]
  rw [proveF] at hr
  have hgi : givI gs p = findI (fun g => prB g p) gs 0 := rfl
  rw [← hgi] at HG
  generalize givI gs p = gi at *
  clear hgi
  have hfi : fitsR v p = true → 0 ≤ instI v p.c p.t.name := fun q => by unfold fitsR at q; exact (of_decide_eq_true q).1
  have hnz := fun q (hq : q ∈ needsR v (instI v p.c p.t.name) p.t) => hv.needs_size hq
  have IH : ∀ q ∈ needsR v (instI v p.c p.t.name) p.t, PCall Tryz.prog _ _ _ := fun q hq => IH q (by have := hnz q hq; omega) (by have := hnz q hq; omega)
  clear hnz
  have hlb := needsR_len hv.g.b (instI v p.c p.t.name) p.t
  generalize proveF v gs n = F at *
  generalize needsR v (instI v p.c p.t.name) p.t = l at *
  generalize fitsR v p = c30 at *
  generalize instI v p.c p.t.name = ii at *
  obtain ⟨si, hsi⟩ : ∃ s, supI v gs p = s := ⟨_, rfl⟩
  have hsh0 := fun (i : Nat) g (e : si = i) => supP_hit (v := v) (gs := gs) (p := p) (g := g) (i := i) (hsi.trans e)
  have hsn : si < 0 → _ := fun e => supP_no (v := v) (gs := gs) (p := p) (by omega)
  unfold supI at hsi
  generalize hpp : (fun (g : Pr) => g.t.eqb p.t && hasB (aboveR v g.c) p.c) = pp at hsi
  have hpq : ∀ g, pp g = true ↔ (g.t = p.t ∧ p.c ∈ aboveR v g.c) := fun s => by subst hpp; simp only [Bool.and_eq_true, Ty.eqb_iff, hasB_iff]
  clear hpp
  generalize supP v gs p = sp at *
  have hUF : ∃ U : Pr → Nat → Pf, U = fun (g : Pr) (i : Nat) => upF v g.c p.c (.mk 1 i kE []) := ⟨_, rfl⟩
  obtain ⟨U, hU⟩ := hUF
  have HU : ∀ (g : Pr) (i : Nat), p.c ∈ aboveR v g.c → PCall Tryz.prog 33 [.agg v.cells, .val (.string g.c), .val (.string p.c), .agg (Pf.mk 1 i kE []).cells] (.agg (U g i).cells) := fun g i h => by rw [hU]; exact HU0 g i h
  have hsh : ∀ (i : Nat) g, si = i → gs[i]? = some g → sp = (U g i, true) := fun i g e k => by rw [hU]; exact hsh0 i g e k
  clear hU hv hz h hsh0 HU0
  generalize aboveR v = av at *
  obtain ⟨pc, ⟨pk, ps, pn, pl⟩⟩ := p
  obtain ⟨da, cl, ins⟩ := v
  obtain ⟨⟨rk, rn, rc, rl⟩, rb⟩ := r
  have hgl := Pr.cellss_len gs
  have hll := Pr.cellss_len l
  simp only [En.cells, Pf.cells, Pf.cellss, Pr.cells, Ty.cells, Pr.c, Pr.t] at *
  refine Zw Tryz.func11 J (by kernel_rfl) J (Uc J) ?_
  refine Ye (Zg (Zc (Za 3 J J J (Yu (cs' := [_, _, _]) J J J J (Za 5 J J J (Yu (cs' := [_, _, _, _, _]) J J J J (Za 6 J J J (Zy (cs' := [_, _, _, _]) J tz_30 J J ?_)))))))); intro b6
  refine Za 7 J J J (Ze J J (Vp (Zb (Zg (Zg (Zc (Za 18 J J J (Zd J J (Za 19 J J J (op_makeFunc (fs := []) (cs := [.tmp 5]) J J J (Za 20 J J J (Yp (xs := [.tmp 18, .tmp 19]) J J (HG) by1 ?_))))))))))))
  refine Za 8 J J J (Ze J J (Vp (Zb (Zg (Zc (Za 21 J J J (Zd J J (Za 22 J J J (Wa J J J ?_))))))))); intro c22 h22
  refine Vp (Zb ?_)
  rcases Zi h22 with ⟨rfl, g22⟩ | ⟨rfl, g22⟩
  ·refine Zr J (Zv (Zb (Zg (Zg ?_))))
   rw [if_neg g22] at hr
   refine Zc (Za 26 J J J (Yd (cs' := [_, _, _]) J Xy J J J (Za 27 J J J (Yd (cs' := [_, _, _, _, _]) J ta_27 J J J (Za 28 J J J (Yp (xs := [.tmp 26, .tmp 27]) J J (HF) by1 ?_))))))
   refine Za 25 J J J (Zd J J (Za 29 J J J (Ys J J J (Za 30 J J J (Ys J J J (Za 9 J J J (Ze J J (Za 10 J J J (Ze J J (Vp (Zb (Zg (Zc ?_)))))))))))))
   refine Za 31 J J J (Zd J J (Vp (Zb ?_)))
   rcases c30 with _ | _
   ·refine Zr J (Zv (Zb (Zg (Zg (Zc (Za 64 J J J (Zd J J ?_)))))))
    refine Za 65 J J J (Yy J tu_22 J (.seq _ _) (fun n65 => ?_))
    refine Za 66 J J J (Zd J J (Vp (Zb (Zz ?_))))
    have hr : sp = (Pf.mk rk rn rc rl, rb) := by
     first
      | (rw [List.take_of_length_le (by omega)] at hb; rw [if_neg (fun q => by rw [← hb] at q; exact absurd q.2 (by simp))] at hr; exact hr)
      | (rw [if_neg (fun q => absurd q.1 (by simp))] at hr; exact hr)
    apply Xl [0, 1, 2, 4, 7, 8, 9, 10, 11, 12, 13, 14, 15, 16, 17, 18, 19, 20, 21, 22, 23, 24, 25, 26, 27, 28, 29, 31, 32, 33, 34, 35, 36, 37, 38, 39, 40, 41, 42, 43, 44, 45, 46, 47, 48, 49, 50, 51, 52, 53, 54, 55, 56, 57, 58, 59, 60, 61, 62, 63, 66, 67, 68, 69, 70, 71, 72, 73, 74, 75, 76, 77, 78, 79, 80, 81, 82, 83, 84, 85, 86, 87, 88, 89, 90, 91, 92, 93] (σ := Nat) (fun zz => match zz with | i => [(66, .val (.int .i64 i))]) (fun zz => match zz with | i => i ≤ gs.length ∧ findI pp (gs.drop i) i = si) (fun zz => match zz with | i => gs.length - i) (0)
    ·repeat' (first | exact Uf | apply Ud rfl | apply Ue rfl)
    ·exact ⟨Nat.zero_le _, hsi⟩
    ·exact by4
    rintro i hI
    try dsimp only [List.cons_append, List.nil_append] at hI ⊢
    obtain ⟨hi, hf⟩ := hI
    refine Zg (Zc (Za 67 J J J (Yt J J J ?_))); intro c67 h67
    refine Vp (Zb (Zg ?_))
    rcases Zi h67 with ⟨rfl, g67⟩ | ⟨rfl, g67⟩
    ·refine Zr J (Xc (Xd (Xv (Xe (Zb (Zg (Zc (Za 94 J J J (Ym (ns := []) (xs := []) J tz_30 J tfl_30 J J J J (Zs J J (Zo (cs' := [_, _, _, _]) (i := 0) J ts_30 J J J J J (Uc J) J (Za 7 J J J (Ze J J (Vp (Zb (Ya ?_))))))))))))))))
     rw [Ui (by omega), findI] at hf
     rw [hsn (by omega)] at hr
     cases hr
     first
      | exact Wx (i := 0) rfl rfl rfl rfl Vk rfl by0 (Vr _) ⟨rfl, rfl⟩
      | exact Wx (i := 1) rfl rfl rfl rfl Vk rfl by0 (Vr _) ⟨rfl, rfl⟩
      | exact Wx (i := 2) rfl rfl rfl rfl Vk rfl by0 (Vr _) ⟨rfl, rfl⟩
      | exact Wx (i := 3) rfl rfl rfl rfl Vk rfl by0 (Vr _) ⟨rfl, rfl⟩
    ·refine Zt J (Zv (Zb (Zg (Zz (Zg ?_)))))
     obtain ⟨⟨gc, ⟨gtk, gts, gtn, gtl⟩⟩, hxg⟩ := Yx (l := gs) (i := i) by7
     have hcg := Pr.cellss_get hxg
     have hmg := Uh hxg
     rw [Xp hxg, findI] at hf
     have HSg := HS (Pr.mk gc ⟨gtk, gts, gtn, gtl⟩)
     have HAg := HA (Pr.mk gc ⟨gtk, gts, gtn, gtl⟩)
     have HHg := HH (Pr.mk gc ⟨gtk, gts, gtn, gtl⟩)
     simp only [Ty.cells] at HSg HAg HHg
     refine Zc (Za 68 J J J (Zd J J (Za 69 J J J (Yc J te_22 J (.seq _ _) J J (hcg) (Za 70 J J J (Yd (cs' := [_, _, _, _, _]) J ta_27 J J J (Za 17 J J J (Zy (cs' := [_, _, _, _, _]) J tz_27 J J ?_)))))))); intro b17
     refine Za 16 J J J (Ze J J (Zs J J (Zo (cs' := [_, _, _, _, _]) (i := 0) J ts_27 J J J J J (Uc J) J (Vp (Zb (Zg (Vi 84 (Ty.mk gtk gts gtn gtl = Ty.mk pk ps pn pl ∧ pc ∈ av gc) Wr J ?_ _ _ J ?_)))))))
     ·skip
      refine Zm 71 J J (Zh J Wn J ⟨J, J⟩) ?_
      refine Zm 72 J J (Zx (cs' := [_, _, _, _]) (i := 0) J Xx J J J J ⟨J, J⟩) ?_
      refine Zm 73 J J (Zj J Wn J J ⟨J, J⟩) ?_
      refine Zm 74 J J (Yd (cs' := [_, _, _, _]) J Xx J J J ⟨J, J⟩) ?_
      refine Wb 75 J J (fun _ q => Yf (xs := [.tmp 72, .tmp 74]) J J (HSg) by1 q) ?_; intro c75 h75
      refine Zm 76 J J (Zd J J ⟨J, J⟩) ?_
      rcases Zi h75 with ⟨rfl, g75⟩ | ⟨rfl, g75⟩
      ·skip
       refine Zf 77 J J J J (Zf 78 J J J J (Zf 79 J J J J (Zf 80 J J J J (Zf 81 J J J J (Zf 82 J J J J ?_)))))
       refine Zf 83 J J J J (Zm 84 J J (Zn J J J ⟨J, J⟩) ?_)
       show BoolQ _ _ _ _ _ _
       refine Ua J ?_ by5 by3
       clear HSg HAg HHg HS HA HH HU HG HF HN IH; first | (simp_all; done) | grind
      ·skip
       refine Zu 77 J J J J (Yd (cs' := [_, _, _]) J Xy J J J ⟨J, J⟩) ?_
       refine Zu 78 J J J J (Zh J Vd J ⟨J, J⟩) ?_
       refine Zu 79 J J J J (Zq (i := 0) J Yz J J J ⟨J, J⟩) ?_
       refine Zu 80 J J J J (Yp (xs := [.tmp 77, .tmp 79]) J J (HAg) by1 ⟨J, J⟩) ?_
       refine Zu 81 J J J J (Zj J Vd J J ⟨J, J⟩) ?_
       refine Zu 82 J J J J (Zp J Yz J J ⟨J, J⟩) ?_
       refine Xi 83 J J J J (fun _ q => Yf (xs := [.tmp 80, .tmp 82]) J J (HHg) by1 q) ?_; intro c83 h83
       refine Zm 84 J J (Zn J J J ⟨J, J⟩) ?_
       show BoolQ _ _ _ _ _ _
       refine Ua J ?_ by5 by3
       clear HSg HAg HHg HS HA HH HU HG HF HN IH; first | (simp_all; done) | grind
     intro c84 h84
     refine Zb ?_
     rcases Zi h84 with ⟨rfl, g84⟩ | ⟨rfl, g84⟩
     ·refine Zr J (Zv (Yv (Zb (Zc (Za 93 J J J (Yw J J J (Ug _ (by omega)) ?_))))))
      refine Za 66 J J J (Zd J J (Vp (Xa ?_)))
      rw [if_neg (fun q => g84 ((hpq _).1 q))] at hf; exact ⟨i + 1, ⟨by show i + 1 ≤ gs.length; omega, hf⟩, by show gs.length - (i + 1) < gs.length - i; omega, by4, by3⟩
     ·refine Zt J (Zg ?_)
      rw [if_pos ((hpq _).2 g84)] at hf
      have hsp := hsh i _ hf.symm hxg
      rw [hsp] at hr
      have HUg := HU (Pr.mk gc ⟨gtk, gts, gtn, gtl⟩) i g84.2
      obtain ⟨h1r, h2r⟩ := Prod.mk.inj hr
      rw [h1r] at HUg
      simp only [Pf.cells] at HUg
      refine Zc (Za 85 J J J (Yd (cs' := [_, _, _]) J Xy J J J (Za 86 J J J (Zh J Vd J (Za 87 J J J (Zq (i := 0) J Yz J J J (Za 88 J J J (Zj J Vd J J (Za 89 J J J (Zp J Yz J J ?_))))))))))
      refine Za 90 J J J (Zd J J (Za 91 J J J (Ym (ns := [0, 1]) (xs := [.const (.int .i64 1), .tmp 90]) J tz_30 J tfl_30 J J J J (Za 92 J J J (Yp (xs := [.tmp 85, .tmp 87, .tmp 89, .tmp 91]) J J (HUg) by1 ?_)))))
      refine Zs J J (Zo (cs' := [_, _, _, _]) (i := 1) J ts_30 J J J J J (Uc J) J (Za 7 J J J (Ze J J (Vp (Zb (Ya ?_))))))
      subst h2r
      first
       | exact Wx (i := 0) rfl rfl rfl rfl Vk rfl by0 (Vr _) ⟨rfl, rfl⟩
       | exact Wx (i := 1) rfl rfl rfl rfl Vk rfl by0 (Vr _) ⟨rfl, rfl⟩
       | exact Wx (i := 2) rfl rfl rfl rfl Vk rfl by0 (Vr _) ⟨rfl, rfl⟩
       | exact Wx (i := 3) rfl rfl rfl rfl Vk rfl by0 (Vr _) ⟨rfl, rfl⟩
   ·refine Zt J (Zg ?_)
    rw [show max ii 0 = ii by have := hfi rfl; omega]
    refine Zc (Za 32 J J J (Zd J J (Za 33 J J J (Ym (ns := [0, 1]) (xs := [.const (.int .i64 3), .tmp 32]) J tz_30 J tfl_30 J J J J (Za 11 J J J (Zy (cs' := [_, _, _, _]) J tz_30 J J ?_)))))); intro b11
    refine Zs J J (Zo (cs' := [_, _, _, _]) (i := 0) J ts_30 J J J J J (Uc J) J (Vp (Zb (Zg (Zg (Zc (Za 34 J J J (Yd (cs' := [_, _, _]) J Xy J J J (Za 35 J J J (Zd J J (Za 36 J J J (Zj J Wn J J (Za 37 J J J (Yd (cs' := [_, _, _, _]) J Xx J J J ?_))))))))))))))
    refine Za 38 J J J (Yp (xs := [.tmp 34, .tmp 35, .tmp 37]) J J (HN) by1 ?_)
    refine Za 39 J J J (Yy J tu_22 J (.seq _ _) (fun n39 => ?_))
    refine Za 40 J J J (Zd J J (Vp (Zb (Zz ?_))))
    refine c_lens (t := 38) J (.seq _ _) (fun hmax => ?_)
    refine We 30 4 ?_
    apply Wg [0, 2, 4, 8, 9, 10, 12, 13, 14, 15, 18, 19, 20, 21, 22, 23, 24, 25, 26, 27, 28, 29, 31, 32, 33, 34, 35, 36, 37, 40, 41, 42, 43, 44, 45, 46, 47, 48, 49, 50, 51, 52, 53, 54, 55, 56, 57, 58, 59, 60, 61] (σ := Nat × Bool × List Pf × Value) (fun zz => match zz with | (k, c10, acc, u) => [(40, .val (.int .i64 k)), (10, .val (.bool c10))]) (fun zz => match zz with | (k, c10, acc, u) => [.loc b11 [.val (.int .i64 3), .val (.int .i64 ii), .val (.string kE), .own u 4 (Pf.cellss acc)], .loc b6 [.val (.int .i64 0), .val (.int .i64 0), .val (.string kE), .val (.slice none 0 0)], .own 30 4 u]) (fun zz => match zz with | (k, c10, acc, u) => k ≤ l.length ∧ acc = (l.take k).map (fun q => (F q).1) ∧ c10 = (l.take k).all (fun q => (F q).2)) (fun zz => match zz with | (k, c10, acc, u) => l.length - k) ((0, true, [], .slice none 0 0))
    ·repeat' (first | exact Uf | apply Ud rfl | apply Ue rfl)
    ·exact ⟨Nat.zero_le _, J, J⟩
    ·exact by4
    ·exact (Vu _ (Vy (Vw _) (Vy (Vw _) (Vy (Vw _) (Vy (Le.nilOwn 4) (Vx _))))) (Vv J))
    rintro ⟨k, c10, acc, u⟩ hI
    try dsimp only [List.cons_append, List.nil_append] at hI ⊢
    obtain ⟨h1, ha, hb⟩ := hI
    have hle : (Pf.cellss acc).length ≤ 10000000000 := by rw [Pf.cellss_len, ha, List.length_map, List.length_take]; omega
    refine Zg (Zc (Za 41 J J J (Yt J J J ?_))); intro c41 h41
    refine Vp (Zb (Zg ?_))
    rcases Zi h41 with ⟨rfl, g41⟩ | ⟨rfl, g41⟩
    ·refine Zr J (Xc (Xd (Xv (Xe (Zb (Zg (Zc (Za 62 J J J (Zd J J (Vp (Zb ?_)))))))))))
     rcases c10 with _ | _
     ·refine Zr J (Zv (Zb (Zg (Zg (Zc (Za 64 J J J (Zd J J ?_)))))))
      refine Za 65 J J J (Yy J tu_22 J (.seq _ _) (fun n65 => ?_))
      refine Za 66 J J J (Zd J J (Vp (Zb (Zz ?_))))
      have hr : sp = (Pf.mk rk rn rc rl, rb) := by
       first
        | (rw [List.take_of_length_le (by omega)] at hb; rw [if_neg (fun q => by rw [← hb] at q; exact absurd q.2 (by simp))] at hr; exact hr)
        | (rw [if_neg (fun q => absurd q.1 (by simp))] at hr; exact hr)
      apply Xl [0, 1, 2, 4, 7, 8, 9, 10, 11, 12, 13, 14, 15, 16, 17, 18, 19, 20, 21, 22, 23, 24, 25, 26, 27, 28, 29, 31, 32, 33, 34, 35, 36, 37, 38, 39, 40, 41, 42, 43, 44, 45, 46, 47, 48, 49, 50, 51, 52, 53, 54, 55, 56, 57, 58, 59, 60, 61, 62, 63, 66, 67, 68, 69, 70, 71, 72, 73, 74, 75, 76, 77, 78, 79, 80, 81, 82, 83, 84, 85, 86, 87, 88, 89, 90, 91, 92, 93] (σ := Nat) (fun zz => match zz with | i => [(66, .val (.int .i64 i))]) (fun zz => match zz with | i => i ≤ gs.length ∧ findI pp (gs.drop i) i = si) (fun zz => match zz with | i => gs.length - i) (0)
      ·repeat' (first | exact Uf | apply Ud rfl | apply Ue rfl)
      ·exact ⟨Nat.zero_le _, hsi⟩
      ·exact by4
      rintro i hI
      try dsimp only [List.cons_append, List.nil_append] at hI ⊢
      obtain ⟨hi, hf⟩ := hI
      refine Zg (Zc (Za 67 J J J (Yt J J J ?_))); intro c67 h67
      refine Vp (Zb (Zg ?_))
      rcases Zi h67 with ⟨rfl, g67⟩ | ⟨rfl, g67⟩
      ·refine Zr J (Xc (Xd (Xv (Xe (Zb (Zg (Zc (Za 94 J J J (Ym (ns := []) (xs := []) J tz_30 J tfl_30 J J J J (Zs J J (Zo (cs' := [_, _, _, _]) (i := 1) J ts_30 J J J J J (Uc J) J (Za 7 J J J (Ze J J (Vp (Zb (Ya ?_))))))))))))))))
       rw [Ui (by omega), findI] at hf
       rw [hsn (by omega)] at hr
       cases hr
       first
        | exact Wx (i := 0) rfl rfl rfl rfl Vk rfl by0 (Vr _) ⟨rfl, rfl⟩
        | exact Wx (i := 1) rfl rfl rfl rfl Vk rfl by0 (Vr _) ⟨rfl, rfl⟩
        | exact Wx (i := 2) rfl rfl rfl rfl Vk rfl by0 (Vr _) ⟨rfl, rfl⟩
        | exact Wx (i := 3) rfl rfl rfl rfl Vk rfl by0 (Vr _) ⟨rfl, rfl⟩
      ·refine Zt J (Zv (Zb (Zg (Zz (Zg ?_)))))
       obtain ⟨⟨gc, ⟨gtk, gts, gtn, gtl⟩⟩, hxg⟩ := Yx (l := gs) (i := i) by7
       have hcg := Pr.cellss_get hxg
       have hmg := Uh hxg
       rw [Xp hxg, findI] at hf
       have HSg := HS (Pr.mk gc ⟨gtk, gts, gtn, gtl⟩)
       have HAg := HA (Pr.mk gc ⟨gtk, gts, gtn, gtl⟩)
       have HHg := HH (Pr.mk gc ⟨gtk, gts, gtn, gtl⟩)
       simp only [Ty.cells] at HSg HAg HHg
       refine Zc (Za 68 J J J (Zd J J (Za 69 J J J (Yc J te_22 J (.seq _ _) J J (hcg) (Za 70 J J J (Yd (cs' := [_, _, _, _, _]) J ta_27 J J J (Za 17 J J J (Zy (cs' := [_, _, _, _, _]) J tz_27 J J ?_)))))))); intro b17
       refine Za 16 J J J (Ze J J (Zs J J (Zo (cs' := [_, _, _, _, _]) (i := 0) J ts_27 J J J J J (Uc J) J (Vp (Zb (Zg (Vi 84 (Ty.mk gtk gts gtn gtl = Ty.mk pk ps pn pl ∧ pc ∈ av gc) Wr J ?_ _ _ J ?_)))))))
       ·skip
        refine Zm 71 J J (Zh J Wn J ⟨J, J⟩) ?_
        refine Zm 72 J J (Zx (cs' := [_, _, _, _]) (i := 0) J Xx J J J J ⟨J, J⟩) ?_
        refine Zm 73 J J (Zj J Wn J J ⟨J, J⟩) ?_
        refine Zm 74 J J (Yd (cs' := [_, _, _, _]) J Xx J J J ⟨J, J⟩) ?_
        refine Wb 75 J J (fun _ q => Yf (xs := [.tmp 72, .tmp 74]) J J (HSg) by1 q) ?_; intro c75 h75
        refine Zm 76 J J (Zd J J ⟨J, J⟩) ?_
        rcases Zi h75 with ⟨rfl, g75⟩ | ⟨rfl, g75⟩
        ·skip
         refine Zf 77 J J J J (Zf 78 J J J J (Zf 79 J J J J (Zf 80 J J J J (Zf 81 J J J J (Zf 82 J J J J ?_)))))
         refine Zf 83 J J J J (Zm 84 J J (Zn J J J ⟨J, J⟩) ?_)
         show BoolQ _ _ _ _ _ _
         refine Ua J ?_ by5 by3
         clear HSg HAg HHg HS HA HH HU HG HF HN IH; first | (simp_all; done) | grind
        ·skip
         refine Zu 77 J J J J (Yd (cs' := [_, _, _]) J Xy J J J ⟨J, J⟩) ?_
         refine Zu 78 J J J J (Zh J Vd J ⟨J, J⟩) ?_
         refine Zu 79 J J J J (Zq (i := 0) J Yz J J J ⟨J, J⟩) ?_
         refine Zu 80 J J J J (Yp (xs := [.tmp 77, .tmp 79]) J J (HAg) by1 ⟨J, J⟩) ?_
         refine Zu 81 J J J J (Zj J Vd J J ⟨J, J⟩) ?_
         refine Zu 82 J J J J (Zp J Yz J J ⟨J, J⟩) ?_
         refine Xi 83 J J J J (fun _ q => Yf (xs := [.tmp 80, .tmp 82]) J J (HHg) by1 q) ?_; intro c83 h83
         refine Zm 84 J J (Zn J J J ⟨J, J⟩) ?_
         show BoolQ _ _ _ _ _ _
         refine Ua J ?_ by5 by3
         clear HSg HAg HHg HS HA HH HU HG HF HN IH; first | (simp_all; done) | grind
       intro c84 h84
       refine Zb ?_
       rcases Zi h84 with ⟨rfl, g84⟩ | ⟨rfl, g84⟩
       ·refine Zr J (Zv (Yv (Zb (Zc (Za 93 J J J (Yw J J J (Ug _ (by omega)) ?_))))))
        refine Za 66 J J J (Zd J J (Vp (Xa ?_)))
        rw [if_neg (fun q => g84 ((hpq _).1 q))] at hf; exact ⟨i + 1, ⟨by show i + 1 ≤ gs.length; omega, hf⟩, by show gs.length - (i + 1) < gs.length - i; omega, by4, by3⟩
       ·refine Zt J (Zg ?_)
        rw [if_pos ((hpq _).2 g84)] at hf
        have hsp := hsh i _ hf.symm hxg
        rw [hsp] at hr
        have HUg := HU (Pr.mk gc ⟨gtk, gts, gtn, gtl⟩) i g84.2
        obtain ⟨h1r, h2r⟩ := Prod.mk.inj hr
        rw [h1r] at HUg
        simp only [Pf.cells] at HUg
        refine Zc (Za 85 J J J (Yd (cs' := [_, _, _]) J Xy J J J (Za 86 J J J (Zh J Vd J (Za 87 J J J (Zq (i := 0) J Yz J J J (Za 88 J J J (Zj J Vd J J (Za 89 J J J (Zp J Yz J J ?_))))))))))
        refine Za 90 J J J (Zd J J (Za 91 J J J (Ym (ns := [0, 1]) (xs := [.const (.int .i64 1), .tmp 90]) J tz_30 J tfl_30 J J J J (Za 92 J J J (Yp (xs := [.tmp 85, .tmp 87, .tmp 89, .tmp 91]) J J (HUg) by1 ?_)))))
        refine Zs J J (Zo (cs' := [_, _, _, _]) (i := 2) J ts_30 J J J J J (Uc J) J (Za 7 J J J (Ze J J (Vp (Zb (Ya ?_))))))
        subst h2r
        first
         | exact Wx (i := 0) rfl rfl rfl rfl Vk rfl by0 (Vr _) ⟨rfl, rfl⟩
         | exact Wx (i := 1) rfl rfl rfl rfl Vk rfl by0 (Vr _) ⟨rfl, rfl⟩
         | exact Wx (i := 2) rfl rfl rfl rfl Vk rfl by0 (Vr _) ⟨rfl, rfl⟩
         | exact Wx (i := 3) rfl rfl rfl rfl Vk rfl by0 (Vr _) ⟨rfl, rfl⟩
     ·refine Zt J (Zg (Zc (Za 63 J J J (Zx (cs' := [_, _, _, _]) (i := 0) J Vk J J J J (Zs J J (Zo (cs' := [_, _, _, _]) (i := 1) J ts_30 J J J J J (Uc J) J (Za 7 J J J (Ze J J (Vp (Zb (Ya ?_)))))))))))
      rw [List.take_of_length_le (by omega)] at ha hb
      rw [if_pos ⟨rfl, hb.symm⟩, ← ha] at hr
      cases hr
      first
       | exact Wx (i := 0) rfl rfl rfl rfl Vk rfl by0 (Vr _) ⟨rfl, rfl⟩
       | exact Wx (i := 1) rfl rfl rfl rfl Vk rfl by0 (Vr _) ⟨rfl, rfl⟩
    ·refine Zt J (Zv (Zb (Zg (Zz (Zg ?_)))))
     obtain ⟨⟨qc, ⟨qtk, qts, qtn, qtl⟩⟩, hxq⟩ := Yx (l := l) (i := k) by7
     have hcq := Pr.cellss_get hxq
     have hmq := Uh hxq
     have HP := IH _ hmq
     have hsq := Wj hxq
     obtain ⟨⟨⟨yk, yn, yc, yl⟩, c50⟩, hy⟩ : ∃ z, F (Pr.mk qc ⟨qtk, qts, qtn, qtl⟩) = z := ⟨_, rfl⟩
     rw [hy] at HP
     simp only [Pf.cells, Ty.cells] at HP
     refine Zc (Za 42 J J J (Yc J te_22 J (.seq _ _) J J (hcq) (Za 43 J J J (Yd (cs' := [_, _, _, _, _]) J ta_27 J J J (Za 13 J J J (Zy (cs' := [_, _, _, _, _]) J tz_27 J J ?_)))))); intro b13
     refine Zs J J (Zo (cs' := [_, _, _, _, _]) (i := 0) J ts_27 J J J J J (Uc J) J (Vp (Zb (Zg (Zc (Za 45 J J J (Yd (cs' := [_, _, _]) J Xy J J J (Za 46 J J J (Zd J J (Za 47 J J J (Zx (cs' := [_, _, _, _, _]) (i := 0) J ta_27 J J J J (Za 48 J J J (Yp (xs := [.tmp 45, .tmp 46, .tmp 47]) J J (HP) by1 ?_)))))))))))))
     refine Za 44 J J J (Zd J J (Za 49 J J J (Ys J J J (Za 50 J J J (Ys J J J (Za 14 J J J (Zy (cs' := [_, _, _, _]) J tz_30 J J ?_))))))); intro b14
     refine Zs J J (Zo (cs' := [_, _, _, _]) (i := 0) J ts_30 J J J J J (Uc J) J (Za 15 J J J (Ze J J (Vp (Zb (Zg (Xm 10 (c10 = true ∧ c50 = true) ?_ _ _ J ?_)))))))
     ·skip
      refine Za 51 J J J (Zd J J ?_)
      have h51 : (c10 = true ↔ c10 = true) := Iff.rfl
      refine Za 52 J J J (Zd J J ?_)
      rcases Zi h51 with ⟨rfl, g51⟩ | ⟨rfl, g51⟩
      ·skip
       refine Zk 53 J J J J J (Za 54 J J J (Zn J J J (Za 10 J J J (Ze J J (Vp (Ua J ?_ by5 by3))))))
       first | (simp_all; done) | grind
      ·skip
       refine Zl 53 J J J J J (Zd J J ?_)
       have h53 : (c50 = true ↔ c50 = true) := Iff.rfl
       refine Za 54 J J J (Zn J J J (Za 10 J J J (Ze J J (Vp (Ua J ?_ by5 by3)))))
       first | (simp_all; done) | grind
     intro c10 h10
     refine Zb (Zc (Za 55 J J J (Zh J tf_30_3 J (Za 56 J J J (Zq (i := 2) J ta_28 J J J (Za 57 J J J (Zx (cs' := [_, _, _, _]) (i := 0) J Vk J J J J (Za 58 J J J (Yi (xs := [.tmp 57]) el_28 J J J J J J (Uc J) (Za 59 J J J (Xj (i := 4) el_28 J J J J (.seq _ _) by6 ?_)))))))))))
     intro u59
     refine Za 60 J J J (Zh J tf_30_3 J (Zs J J (Zo (cs' := [_, _, _, _]) (i := 2) J ts_28 J J J J J (Uc J) J (Vp (Yv (Zb (Zc (Za 61 J J J (Yw J J J (Ug _ (by omega)) ?_)))))))))
     refine Za 40 J J J (Zd J J (Vp (Xa ?_)))
     exact ⟨(k + 1, c10, acc ++ [Pf.mk yk yn yc yl], u59), ⟨by show k + 1 ≤ l.length; omega, by show acc ++ _ = _; rw [hsq, List.map_append, ← ha]; simp [hy], by show c10 = _; rw [hsq, List.all_append, ← hb]; exact Bool.eq_iff_iff.2 (h10.trans (by simp [hy]))⟩, by show l.length - (k + 1) < l.length - k; omega, by4, (Vt _ (Vt _ (Vu _ (Vy (Vw _) (Vy (Vw _) (Vy (Vw _) (Vy (Ub (by rw [Pf.cellss_app']; rfl)) (Vx _))))) (Vv J))))⟩
  ·refine Zt J (Zg (Zc (Za 23 J J J (Zd J J (Za 24 J J J (Ym (ns := [0, 1]) (xs := [.const (.int .i64 1), .tmp 23]) J tz_30 J tfl_30 J J J J (Zs J J (Zo (cs' := [_, _, _, _]) (i := 0) J ts_30 J J J J J (Uc J) J (Za 7 J J J (Ze J J (Vp (Zb ?_))))))))))))
   refine Ya ?_
   rw [if_pos g22] at hr
   cases hr
   exact Wx (i := 0) J J J J Vk J by0 (Vr _) ⟨J, J⟩
set_option maxHeartbeats 4000000 in
set_option maxRecDepth 100000 in
theorem EqF_pf (v : En) (gs : List Pr) (g : FuncId) (cs : List AV) (xs : List Pf) (qs : List Pr) (hg : ∀ x ∈ xs, ∀ q ∈ qs, BCall Tryz.prog g ([] ++ [.agg x.cells, .agg q.cells] ++ cs) (holdsP v gs x q)) : BCall Tryz.prog 41 [.seq 4 (Pf.cellss xs), .seq 5 (Pr.cellss qs), .clo (.func g) [] cs] (holdsL v gs xs qs) := by
 have hx := Pf.cellss_len xs
 have hq := Pr.cellss_len qs
 refine Zw Tryz.func41 J (by kernel_rfl) J (Uc J) ?_
 refine Ye ?_
 refine c_lens (t := 0) J (.seq _ _) (fun hmax => ?_)
 refine Zg (Zc (Za 6 J J J (Ze J J (Vp (Zb (Zg (Zg (Zc (Za 10 J J J (Zd J J ?_))))))))))
 refine Za 11 J J J (Yy J tu_28 J (.seq _ _) (fun n11 => ?_))
 refine Za 12 J J J (Zd J J ?_)
 refine Za 13 J J J (Yy J tu_22 J (.seq _ _) (fun n13 => ?_))
 refine Za 14 J J J (Xq J J J ?_); intro c14 h14
 refine Vp (Zb ?_)
 rcases Zi h14 with ⟨rfl, g14⟩ | ⟨rfl, g14⟩
 ·refine Zr J (Zv (Zb (Zg (Zg (Zc (Za 15 J J J (Zd J J ?_)))))))
  refine Za 16 J J J (Yy J tu_28 J (.seq _ _) (fun n16 => ?_))
  refine Za 17 J J J (Zd J J (Vp (Zb (Zz ?_))))
  apply Xl [0, 3, 4, 5, 6, 7, 8, 9, 10, 11, 12, 13, 14, 17, 18, 19, 20, 21, 22, 23, 24, 25, 26, 27, 28, 29, 30, 31] (σ := Nat) (fun zz => match zz with | i => [(17, .val (.int .i64 i))]) (fun zz => match zz with | i => i ≤ xs.length ∧ (holdsL v gs (xs.drop i) (qs.drop i) ↔ holdsL v gs xs qs)) (fun zz => match zz with | i => xs.length - i) (0)
  ·repeat' (first | exact Uf | apply Ud rfl | apply Ue rfl)
  ·exact ⟨Nat.zero_le _, by rw [List.drop_zero, List.drop_zero]⟩
  ·exact by4
  rintro i hI
  try dsimp only [List.cons_append, List.nil_append] at hI ⊢
  obtain ⟨hi, hf⟩ := hI
  refine Zg (Zc (Za 18 J J J (Yt J J J ?_))); intro c18 h18
  refine Vp (Zb (Zg ?_))
  rcases Zi h18 with ⟨rfl, g18⟩ | ⟨rfl, g18⟩
  ·refine Zr J (Xc (Xd (Xv (Xe (Zb (Zg (Zc (Za 6 J J J (Ze J J (Vp (Zb (Ya ?_))))))))))))
   exact Yh J J (Vw _) (Vr _) ⟨⟨true, by simp only [true_iff]; exact hf.1 (by rw [Ui (by omega), Ui (by omega), holdsL]; trivial), J⟩, J⟩
  ·refine Zt J (Zv (Zb (Zg (Zz (Zg ?_)))))
   obtain ⟨⟨yk, yn, yc, yl⟩, hxy⟩ := Yx (l := xs) (i := i) (by omega)
   have hcy := Pf.cellss_get hxy
   obtain ⟨⟨zc, ⟨ztk, zts, ztn, ztl⟩⟩, hxz⟩ := Yx (l := qs) (i := i) (by omega)
   have hcz := Pr.cellss_get hxz
   have HG := hg _ (Uh hxy) _ (Uh hxz)
   rw [Xp hxy, Xp hxz, holdsL] at hf
   simp only [Pf.cells, Pr.cells, Ty.cells, List.nil_append] at hcy hcz HG
   refine Zc (Za 19 J J J (Zd J J (Za 20 J J J (Yc J te_28 J (.seq _ _) J J (hcy) (Za 21 J J J (Yd (cs' := [_, _, _, _]) J Vk J J J (Za 8 J J J (Zy (cs' := [_, _, _, _]) J tz_30 J J ?_)))))))); intro b8
   refine Za 7 J J J (Ze J J (Zs J J (Zo (cs' := [_, _, _, _]) (i := 0) J ts_30 J J J J J (Uc J) J (Vp (Zb (Zg (Zc (Za 22 J J J (Zd J J (Za 23 J J J (Zd J J (Za 24 J J J (Yc J te_22 J (.seq _ _) J J (hcz) ?_)))))))))))))
   refine Za 25 J J J (Yd (cs' := [_, _, _, _, _]) J ta_27 J J J (Za 9 J J J (Zy (cs' := [_, _, _, _, _]) J tz_27 J J ?_))); intro b9
   refine Zs J J (Zo (cs' := [_, _, _, _, _]) (i := 0) J ts_27 J J J J J (Uc J) J (Vp (Zb (Zg (Zc (Za 26 J J J (Zd J J (Za 27 J J J (Zx (cs' := [_, _, _, _]) (i := 1) J Vk J J J J (Za 28 J J J (Zx (cs' := [_, _, _, _, _]) (i := 0) J ta_27 J J J J (Za 29 J J J (op_callvb (xs := [.tmp 27, .tmp 28]) J J J (HG) by1 ?_))))))))))))); intro c29 h29
   refine Za 30 J J J (Xt J J ?_); intro c30 h30
   try replace h30 := nott h30 h29
   refine Vp (Zb ?_)
   rcases Zi h30 with ⟨rfl, g30⟩ | ⟨rfl, g30⟩
   ·refine Zr J (Zv (Yv (Zb (Zc (Za 31 J J J (Yw J J J (Ug _ (by omega)) ?_))))))
    refine Za 17 J J J (Zd J J (Vp (Xa ?_)))
    exact ⟨i + 1, ⟨by show i + 1 ≤ xs.length; omega, ⟨fun h => hf.1 ⟨Classical.not_not.1 g30, h⟩, fun h => (hf.2 h).2⟩⟩, by show xs.length - (i + 1) < xs.length - i; omega, by4, by3⟩
   ·refine Zt J (Zg (Zc (Za 6 J J J (Ze J J (Vp (Zb (Ya ?_)))))))
    exact Yh J J (Vw _) (Vr _) ⟨⟨false, by simp only [Bool.false_eq_true, false_iff]; exact fun h => g30 (hf.2 h).1, J⟩, J⟩
 ·refine Zt J (Zg (Zc (Za 6 J J J (Ze J J (Vp (Zb (Ya ?_)))))))
  exact Yh J J (Vw _) (Vr _) ⟨⟨false, by simp only [Bool.false_eq_true, false_iff]; exact fun h => g14 (by have := holdsL_len h; omega), J⟩, J⟩
set_option maxHeartbeats 4000000 in
set_option maxRecDepth 100000 in
theorem Holds1_in (v : En) (gs : List Pr) (i : Nat) (g : Pr) (hg : gs[i]? = some g) (c : ByteArray) (ks : List Pf) (p : Pr) : BCall Tryz.prog 14 [.agg v.cells, .seq 5 (Pr.cellss gs), .agg (Pf.mk 1 i c ks).cells, .agg p.cells] (c = kE ∧ ks.length = 0 ∧ g = p) := by
 have H := same_c g p
 obtain ⟨q, hq⟩ : ∃ q : Prop, (g = p) = q := ⟨_, rfl⟩
 rw [hq] at H ⊢
 clear hq
 have hgl := Pr.cellss_len gs
 have hkl := Pf.cellss_len ks
 have hcg := Pr.cellss_get hg
 have hi := get_lt hg
 obtain ⟨gc, ⟨gtk, gts, gtn, gtl⟩⟩ := g
 obtain ⟨pc, ⟨pk, ps, pn, pl⟩⟩ := p
 obtain ⟨da, cl, ins⟩ := v
 simp only [En.cells, Pf.cells, Pr.cells, Ty.cells] at *
 refine Zw Tryz.func14 J (by kernel_rfl) J (Uc J) ?_
 refine Ye (Zg (Zc (Za 4 J J J (Yu (cs' := [_, _, _]) J J J J (Za 5 J J J (Yu (cs' := [_]) J J J J (Za 6 J J J (Yu (cs' := [_, _, _, _]) J J J J (Za 7 J J J (Yu (cs' := [_, _, _, _, _]) J J J J ?_))))))))))
 refine Za 8 J J J (Ze J J (Vp (Zb (Zg (Zg (Zc (Za 11 J J J (Zj J tf_30_0 J J (Za 12 J J J (Zp J Xb J J (Vp (Zb (Zz (Zg (Zc (Za 14 J J J (Yr J J J ?_))))))))))))))))); intro c14 h14
 refine Za 13 J J J (Ze J J (Vp (Zb ?_)))
 rcases Zi h14 with ⟨rfl, g14⟩ | ⟨rfl, g14⟩
 ·exact absurd J g14
 ·refine Zt J (Zg (Vi 8 (c = kE ∧ ks.length = 0 ∧ q) Wr J ?_ _ _ J ?_))
  ·skip
   refine Zm 15 J J (Zj J tf_30_2 J J ⟨J, J⟩) ?_
   refine Zm 16 J J (Zp J Yz J J ⟨J, J⟩) ?_
   refine Wb 17 J J (fun _ q => Xu J J J q) ?_; intro c17 h17
   refine Zm 18 J J (Zd J J ⟨J, J⟩) ?_
   rcases Zi h17 with ⟨rfl, g17⟩ | ⟨rfl, g17⟩
   ·skip
    refine Zf 19 J J J J (Zf 20 J J J J (Zf 21 J J J J (Zf 22 J J J J (Zm 23 J J (Zn J J J ⟨J, J⟩) ?_))))
    refine Zm 24 J J (Zd J J ⟨J, J⟩) ?_
    refine Zf 25 J J J J (Zf 26 J J J J (Zf 27 J J J J (Zm 28 J J (Zn J J J ⟨J, J⟩) ?_)))
    refine Zm 29 J J (Zd J J ⟨J, J⟩) ?_
    refine Zf 30 J J J J (Zf 31 J J J J (Zf 32 J J J J (Zf 33 J J J J (Zf 34 J J J J (Zm 35 J J (Zn J J J ⟨J, J⟩) ?_)))))
    refine Zm 36 J J (Zd J J ⟨J, J⟩) ?_
    refine Zf 37 J J J J (Zf 38 J J J J (Zf 39 J J J J (Zf 40 J J J J (Zf 41 J J J J (Zf 42 J J J J ?_)))))
    refine Zf 43 J J J J (Zm 44 J J (Zn J J J ⟨J, J⟩) ?_)
    refine Zm 8 J J (Ze J J ⟨J, J⟩) ?_
    show BoolQ _ _ _ _ _ _
    refine Ua J ?_ by5 by3
    clear H; first | (simp_all; done) | (simp_all; omega) | grind
   ·skip
    refine Zu 19 J J J J (Zj J tf_30_3 J J ⟨J, J⟩) ?_
    refine Zu 20 J J J J (Zp J ta_28 J J ⟨J, J⟩) ?_
    refine Zu 21 J J J J (Yy J tu_28 J (.seq _ _) (fun _ => ⟨J, J⟩)) ?_
    refine Xi 22 J J J J (fun _ q => Yr J J J q) ?_; intro c22 h22
    refine Zm 23 J J (Zn J J J ⟨J, J⟩) ?_
    refine Zm 24 J J (Zd J J ⟨J, J⟩) ?_
    rcases Zi h22 with ⟨rfl, g22⟩ | ⟨rfl, g22⟩
    ·skip
     refine Zf 25 J J J J (Zf 26 J J J J (Zf 27 J J J J (Zm 28 J J (Zn J J J ⟨J, J⟩) ?_)))
     refine Zm 29 J J (Zd J J ⟨J, J⟩) ?_
     refine Zf 30 J J J J (Zf 31 J J J J (Zf 32 J J J J (Zf 33 J J J J (Zf 34 J J J J (Zm 35 J J (Zn J J J ⟨J, J⟩) ?_)))))
     refine Zm 36 J J (Zd J J ⟨J, J⟩) ?_
     refine Zf 37 J J J J (Zf 38 J J J J (Zf 39 J J J J (Zf 40 J J J J (Zf 41 J J J J (Zf 42 J J J J ?_)))))
     refine Zf 43 J J J J (Zm 44 J J (Zn J J J ⟨J, J⟩) ?_)
     refine Zm 8 J J (Ze J J ⟨J, J⟩) ?_
     show BoolQ _ _ _ _ _ _
     refine Ua J ?_ by5 by3
     clear H; first | (simp_all; done) | (simp_all; omega) | grind
    ·skip
     refine Zu 25 J J J J (Zj J Ws J J ⟨J, J⟩) ?_
     refine Zu 26 J J J J (Zp J Xb J J ⟨J, J⟩) ?_
     refine Xi 27 J J J J (fun _ q => Wa J J J q) ?_; intro c27 h27
     refine Zm 28 J J (Zn J J J ⟨J, J⟩) ?_
     refine Zm 29 J J (Zd J J ⟨J, J⟩) ?_
     rcases Zi h27 with ⟨rfl, g27⟩ | ⟨rfl, g27⟩
     ·skip
      refine Zf 30 J J J J (Zf 31 J J J J (Zf 32 J J J J (Zf 33 J J J J (Zf 34 J J J J (Zm 35 J J (Zn J J J ⟨J, J⟩) ?_)))))
      refine Zm 36 J J (Zd J J ⟨J, J⟩) ?_
      refine Zf 37 J J J J (Zf 38 J J J J (Zf 39 J J J J (Zf 40 J J J J (Zf 41 J J J J (Zf 42 J J J J ?_)))))
      refine Zf 43 J J J J (Zm 44 J J (Zn J J J ⟨J, J⟩) ?_)
      refine Zm 8 J J (Ze J J ⟨J, J⟩) ?_
      show BoolQ _ _ _ _ _ _
      refine Ua J ?_ by5 by3
      clear H; first | (simp_all; done) | (simp_all; omega) | grind
     ·skip
      refine Zu 30 J J J J (Zj J Ws J J ⟨J, J⟩) ?_
      refine Zu 31 J J J J (Zp J Xb J J ⟨J, J⟩) ?_
      refine Zu 32 J J J J (Zp J ta_22 J J ⟨J, J⟩) ?_
      refine Zu 33 J J J J (Yy J tu_22 J (.seq _ _) (fun _ => ⟨J, J⟩)) ?_
      refine Xi 34 J J J J (fun _ q => Yt J J J q) ?_; intro c34 h34
      refine Zm 35 J J (Zn J J J ⟨J, J⟩) ?_
      refine Zm 36 J J (Zd J J ⟨J, J⟩) ?_
      rcases Zi h34 with ⟨rfl, g34⟩ | ⟨rfl, g34⟩
      ·skip
       refine Zf 37 J J J J (Zf 38 J J J J (Zf 39 J J J J (Zf 40 J J J J (Zf 41 J J J J (Zf 42 J J J J ?_)))))
       refine Zf 43 J J J J (Zm 44 J J (Zn J J J ⟨J, J⟩) ?_)
       refine Zm 8 J J (Ze J J ⟨J, J⟩) ?_
       show BoolQ _ _ _ _ _ _
       refine Ua J ?_ by5 by3
       clear H; first | (simp_all; done) | (simp_all; omega) | grind
      ·skip
       refine Zu 37 J J J J (Zp J ta_22 J J ⟨J, J⟩) ?_
       refine Zu 38 J J J J (Zj J Ws J J ⟨J, J⟩) ?_
       refine Zu 39 J J J J (Zp J Xb J J ⟨J, J⟩) ?_
       refine Zu 40 J J J J (Yc J te_22 J (.seq _ _) J J (hcg) ⟨J, J⟩) ?_
       refine Zu 41 J J J J (Yd (cs' := [_, _, _, _, _]) J ta_27 J J J ⟨J, J⟩) ?_
       refine Zu 42 J J J J (Yd (cs' := [_, _, _, _, _]) J ta_27 J J J ⟨J, J⟩) ?_
       refine Xi 43 J J J J (fun _ q => Yf (xs := [.tmp 41, .tmp 42]) J J (H) by1 q) ?_; intro c43 h43
       refine Zm 44 J J (Zn J J J ⟨J, J⟩) ?_
       refine Zm 8 J J (Ze J J ⟨J, J⟩) ?_
       show BoolQ _ _ _ _ _ _
       refine Ua J ?_ by5 by3
       clear H; first | (simp_all; done) | (simp_all; omega) | grind
  intro c8 h8
  exact Zb (Ya (Yh J J (Vw _) (Vr _) ⟨⟨_, h8, J⟩, J⟩))
set_option maxHeartbeats 4000000 in
set_option maxRecDepth 100000 in
theorem Holds1_out (v : En) (gs : List Pr) (n : Int) (hn : n < 0 ∨ gs.length ≤ n) (c : ByteArray) (ks : List Pf) (p : Pr) : BCall Tryz.prog 14 [.agg v.cells, .seq 5 (Pr.cellss gs), .agg (Pf.mk 1 n c ks).cells, .agg p.cells] False := by
 have hgl := Pr.cellss_len gs
 have hkl := Pf.cellss_len ks
 obtain ⟨pc, ⟨pk, ps, pn, pl⟩⟩ := p
 obtain ⟨da, cl, ins⟩ := v
 simp only [En.cells, Pf.cells, Pr.cells, Ty.cells] at *
 refine Zw Tryz.func14 J (by kernel_rfl) J (Uc J) ?_
 refine Ye (Zg (Zc (Za 4 J J J (Yu (cs' := [_, _, _]) J J J J (Za 5 J J J (Yu (cs' := [_]) J J J J (Za 6 J J J (Yu (cs' := [_, _, _, _]) J J J J (Za 7 J J J (Yu (cs' := [_, _, _, _, _]) J J J J ?_))))))))))
 refine Za 8 J J J (Ze J J (Vp (Zb (Zg (Zg (Zc (Za 11 J J J (Zj J tf_30_0 J J (Za 12 J J J (Zp J Xb J J (Vp (Zb (Zz (Zg (Zc (Za 14 J J J (Yr J J J ?_))))))))))))))))); intro c14 h14
 refine Za 13 J J J (Ze J J (Vp (Zb ?_)))
 rcases Zi h14 with ⟨rfl, g14⟩ | ⟨rfl, g14⟩
 ·exact absurd J g14
 ·refine Zt J (Zg (Vi 8 (False) Wr J ?_ _ _ J ?_))
  ·skip
   refine Zm 15 J J (Zj J tf_30_2 J J ⟨J, J⟩) ?_
   refine Zm 16 J J (Zp J Yz J J ⟨J, J⟩) ?_
   refine Wb 17 J J (fun _ q => Xu J J J q) ?_; intro c17 h17
   refine Zm 18 J J (Zd J J ⟨J, J⟩) ?_
   rcases Zi h17 with ⟨rfl, g17⟩ | ⟨rfl, g17⟩
   ·skip
    refine Zf 19 J J J J (Zf 20 J J J J (Zf 21 J J J J (Zf 22 J J J J (Zm 23 J J (Zn J J J ⟨J, J⟩) ?_))))
    refine Zm 24 J J (Zd J J ⟨J, J⟩) ?_
    refine Zf 25 J J J J (Zf 26 J J J J (Zf 27 J J J J (Zm 28 J J (Zn J J J ⟨J, J⟩) ?_)))
    refine Zm 29 J J (Zd J J ⟨J, J⟩) ?_
    refine Zf 30 J J J J (Zf 31 J J J J (Zf 32 J J J J (Zf 33 J J J J (Zf 34 J J J J (Zm 35 J J (Zn J J J ⟨J, J⟩) ?_)))))
    refine Zm 36 J J (Zd J J ⟨J, J⟩) ?_
    refine Zf 37 J J J J (Zf 38 J J J J (Zf 39 J J J J (Zf 40 J J J J (Zf 41 J J J J (Zf 42 J J J J ?_)))))
    refine Zf 43 J J J J (Zm 44 J J (Zn J J J ⟨J, J⟩) ?_)
    refine Zm 8 J J (Ze J J ⟨J, J⟩) ?_
    show BoolQ _ _ _ _ _ _
    refine Ua J ?_ by5 by3
    first | (simp_all; done) | (simp_all; omega) | grind
   ·skip
    refine Zu 19 J J J J (Zj J tf_30_3 J J ⟨J, J⟩) ?_
    refine Zu 20 J J J J (Zp J ta_28 J J ⟨J, J⟩) ?_
    refine Zu 21 J J J J (Yy J tu_28 J (.seq _ _) (fun _ => ⟨J, J⟩)) ?_
    refine Xi 22 J J J J (fun _ q => Yr J J J q) ?_; intro c22 h22
    refine Zm 23 J J (Zn J J J ⟨J, J⟩) ?_
    refine Zm 24 J J (Zd J J ⟨J, J⟩) ?_
    rcases Zi h22 with ⟨rfl, g22⟩ | ⟨rfl, g22⟩
    ·skip
     refine Zf 25 J J J J (Zf 26 J J J J (Zf 27 J J J J (Zm 28 J J (Zn J J J ⟨J, J⟩) ?_)))
     refine Zm 29 J J (Zd J J ⟨J, J⟩) ?_
     refine Zf 30 J J J J (Zf 31 J J J J (Zf 32 J J J J (Zf 33 J J J J (Zf 34 J J J J (Zm 35 J J (Zn J J J ⟨J, J⟩) ?_)))))
     refine Zm 36 J J (Zd J J ⟨J, J⟩) ?_
     refine Zf 37 J J J J (Zf 38 J J J J (Zf 39 J J J J (Zf 40 J J J J (Zf 41 J J J J (Zf 42 J J J J ?_)))))
     refine Zf 43 J J J J (Zm 44 J J (Zn J J J ⟨J, J⟩) ?_)
     refine Zm 8 J J (Ze J J ⟨J, J⟩) ?_
     show BoolQ _ _ _ _ _ _
     refine Ua J ?_ by5 by3
     first | (simp_all; done) | (simp_all; omega) | grind
    ·skip
     refine Zu 25 J J J J (Zj J Ws J J ⟨J, J⟩) ?_
     refine Zu 26 J J J J (Zp J Xb J J ⟨J, J⟩) ?_
     refine Xi 27 J J J J (fun _ q => Wa J J J q) ?_; intro c27 h27
     refine Zm 28 J J (Zn J J J ⟨J, J⟩) ?_
     refine Zm 29 J J (Zd J J ⟨J, J⟩) ?_
     rcases Zi h27 with ⟨rfl, g27⟩ | ⟨rfl, g27⟩
     ·skip
      refine Zf 30 J J J J (Zf 31 J J J J (Zf 32 J J J J (Zf 33 J J J J (Zf 34 J J J J (Zm 35 J J (Zn J J J ⟨J, J⟩) ?_)))))
      refine Zm 36 J J (Zd J J ⟨J, J⟩) ?_
      refine Zf 37 J J J J (Zf 38 J J J J (Zf 39 J J J J (Zf 40 J J J J (Zf 41 J J J J (Zf 42 J J J J ?_)))))
      refine Zf 43 J J J J (Zm 44 J J (Zn J J J ⟨J, J⟩) ?_)
      refine Zm 8 J J (Ze J J ⟨J, J⟩) ?_
      show BoolQ _ _ _ _ _ _
      refine Ua J ?_ by5 by3
      first | (simp_all; done) | (simp_all; omega) | grind
     ·skip
      refine Zu 30 J J J J (Zj J Ws J J ⟨J, J⟩) ?_
      refine Zu 31 J J J J (Zp J Xb J J ⟨J, J⟩) ?_
      refine Zu 32 J J J J (Zp J ta_22 J J ⟨J, J⟩) ?_
      refine Zu 33 J J J J (Yy J tu_22 J (.seq _ _) (fun _ => ⟨J, J⟩)) ?_
      refine Xi 34 J J J J (fun _ q => Yt J J J q) ?_; intro c34 h34
      refine Zm 35 J J (Zn J J J ⟨J, J⟩) ?_
      refine Zm 36 J J (Zd J J ⟨J, J⟩) ?_
      rcases Zi h34 with ⟨rfl, g34⟩ | ⟨rfl, g34⟩
      ·skip
       refine Zf 37 J J J J (Zf 38 J J J J (Zf 39 J J J J (Zf 40 J J J J (Zf 41 J J J J (Zf 42 J J J J ?_)))))
       refine Zf 43 J J J J (Zm 44 J J (Zn J J J ⟨J, J⟩) ?_)
       refine Zm 8 J J (Ze J J ⟨J, J⟩) ?_
       show BoolQ _ _ _ _ _ _
       refine Ua J ?_ by5 by3
       first | (simp_all; done) | (simp_all; omega) | grind
      ·omega
  intro c8 h8
  exact Zb (Ya (Yh J J (Vw _) (Vr _) ⟨⟨_, h8, J⟩, J⟩))
theorem classI_hit {v : En} {c : ByteArray} (h : 0 ≤ classI v c) : ∃ (j : Nat) (z : Cl), classI v c = j ∧ v.cl[j]? = some z ∧ supersOf v c = z.su := by
 obtain ⟨cx, hcx, hcs, _⟩ := findI_get (fun (c' : Cl) => sameB c'.s c) v.cl 0 h
 refine ⟨(classI v c).toNat, cx, by omega, hcx, ?_⟩
 unfold supersOf
 rw [show v.cl[(classI v c).toNat]? = some cx from hcx]
 rfl
set_option maxHeartbeats 4000000 in
set_option maxRecDepth 100000 in
theorem Holds2_no (v : En) (gs : List Pr) (n : Int) (c : ByteArray) (hc : ¬ 0 ≤ classI v c) (ks : List Pf) (p : Pr) : BCall Tryz.prog 14 [.agg v.cells, .seq 5 (Pr.cellss gs), .agg (Pf.mk 2 n c ks).cells, .agg p.cells] False := by
 have H := tClass_c v c
 rw [show decide (0 ≤ classI v c) = false from decide_eq_false hc] at H
 generalize max (classI v c) 0 = m at *
 clear hc
 obtain ⟨pc, ⟨pk, ps, pn, pl⟩⟩ := p
 obtain ⟨da, cl, ins⟩ := v
 simp only [En.cells, Pf.cells, Pr.cells, Ty.cells] at *
 refine Zw Tryz.func14 J (by kernel_rfl) J (Uc J) ?_
 refine Ye (Zg (Zc (Za 4 J J J (Yu (cs' := [_, _, _]) J J J J (Za 5 J J J (Yu (cs' := [_]) J J J J (Za 6 J J J (Yu (cs' := [_, _, _, _]) J J J J (Za 7 J J J (Yu (cs' := [_, _, _, _, _]) J J J J ?_))))))))))
 refine Za 8 J J J (Ze J J (Vp (Zb (Zg (Zg (Zc (Za 11 J J J (Zj J tf_30_0 J J (Za 12 J J J (Zp J Xb J J (Vp (Zb (Zz (Zg (Zc (Za 14 J J J (Yr J J J ?_))))))))))))))))); intro c14 h14
 refine Za 13 J J J (Ze J J (Vp (Zb ?_)))
 rcases Zi h14 with ⟨rfl, g14⟩ | ⟨rfl, g14⟩
 ·refine Zr J (Zg (Zc (Za 46 J J J (Yr J J J ?_)))); intro c46 h46
  refine Za 45 J J J (Ze J J (Vp (Zb ?_)))
  rcases Zi h46 with ⟨rfl, g46⟩ | ⟨rfl, g46⟩
  ·exact absurd J g46
  ·refine Zt J (Zg (Zc (Za 48 J J J (Yd (cs' := [_, _, _]) J Xy J J J (Za 49 J J J (Zj J tf_30_2 J J (Za 50 J J J (Zp J Yz J J (Za 51 J J J (Yp (xs := [.tmp 48, .tmp 50]) J J (H) by1 ?_))))))))))
   refine Za 47 J J J (Zd J J (Za 52 J J J (Ys J J J (Za 53 J J J (Ys J J J (Za 9 J J J (Ze J J (Za 10 J J J (Ze J J (Vp (Zb (Zg (Zg ?_)))))))))))))
   refine Vi 93 (True) Wr J ?_ _ _ J ?_
   ·skip
    refine Zm 54 J J (Zd J J ⟨J, J⟩) ?_
    refine Wb 55 J J (fun _ q => Xt J J q) ?_; intro c55 h55
    try replace h55 := nott h55 h53
    refine Zm 56 J J (Zd J J ⟨J, J⟩) ?_
    rcases Zi h55 with ⟨rfl, g55⟩ | ⟨rfl, g55⟩
    ·first | exact absurd rfl g55 | simp_all
    ·skip
     refine Zf 57 J J J J (Zf 58 J J J J (Zf 59 J J J J (Zf 60 J J J J (Zm 61 J J (Zn J J J ⟨J, J⟩) ?_))))
     refine Zm 62 J J (Zd J J ⟨J, J⟩) ?_
     refine Zf 63 J J J J (Zf 64 J J J J (Zf 65 J J J J (Zm 66 J J (Zn J J J ⟨J, J⟩) ?_)))
     refine Zm 67 J J (Zd J J ⟨J, J⟩) ?_
     refine Zf 68 J J J J (Zf 69 J J J J (Zf 70 J J J J (Zf 71 J J J J (Zf 72 J J J J (Zf 73 J J J J ?_)))))
     refine Zf 74 J J J J (Zf 75 J J J J (Zf 76 J J J J (Zf 77 J J J J (Zm 78 J J (Zn J J J ⟨J, J⟩) ?_))))
     refine Zm 79 J J (Zd J J ⟨J, J⟩) ?_
     refine Zf 80 J J J J (Zf 81 J J J J (Zf 82 J J J J (Zf 83 J J J J (Zf 84 J J J J (Zf 85 J J J J ?_)))))
     refine Zf 86 J J J J (Zf 87 J J J J (Zf 88 J J J J (Zf 89 J J J J (Zf 90 J J J J (Zf 91 J J J J ?_)))))
     refine Zf 92 J J J J (Zm 93 J J (Zn J J J ⟨J, J⟩) ?_)
     show BoolQ _ _ _ _ _ _
     refine Ua J ?_ by5 by3
     first | (simp_all; done) | grind
   intro c93 h93
   refine Zb ?_
   rcases Zi h93 with ⟨rfl, g93⟩ | ⟨rfl, g93⟩
   ·exact absurd trivial g93
   ·exact Zt J (Zg (Zc (Za 8 J J J (Ze J J (Vp (Zb (Ya (Yh J J (Vw _) (Vr _) ⟨⟨false, by simp, J⟩, J⟩))))))))
 ·exact absurd g14 (by decide)
set_option maxHeartbeats 4000000 in
set_option maxRecDepth 100000 in
theorem Holds2_out (v : En) (gs : List Pr) (n : Int) (c : ByteArray) (j : Nat) (z : Cl) (hj : classI v c = j) (hz : v.cl[j]? = some z) (hn : n < 0 ∨ z.su.length ≤ n) (ks : List Pf) (p : Pr) : BCall Tryz.prog 14 [.agg v.cells, .seq 5 (Pr.cellss gs), .agg (Pf.mk 2 n c ks).cells, .agg p.cells] False := by
 have H := tClass_c v c
 rw [hj, show decide ((0 : Int) ≤ (j : Int)) = true from decide_eq_true (by omega), show max (j : Int) 0 = j by omega] at H
 clear hj
 have hcz := Cl.cellss_get hz
 have hjl := get_lt hz
 have hkl := Pf.cellss_len ks
 obtain ⟨pc, ⟨pk, ps, pn, pl⟩⟩ := p
 obtain ⟨da, cl, ins⟩ := v
 have hcl := Cl.cellss_len cl
 obtain ⟨ys, yv, ysu, yms, yds, yp⟩ := z
 have hls := Xs ysu
 simp only [En.cells, Pf.cells, Pr.cells, Ty.cells, Cl.cells, Cl.su, En.cl] at *
 refine Zw Tryz.func14 J (by kernel_rfl) J (Uc J) ?_
 refine Ye (Zg (Zc (Za 4 J J J (Yu (cs' := [_, _, _]) J J J J (Za 5 J J J (Yu (cs' := [_]) J J J J (Za 6 J J J (Yu (cs' := [_, _, _, _]) J J J J (Za 7 J J J (Yu (cs' := [_, _, _, _, _]) J J J J ?_))))))))))
 refine Za 8 J J J (Ze J J (Vp (Zb (Zg (Zg (Zc (Za 11 J J J (Zj J tf_30_0 J J (Za 12 J J J (Zp J Xb J J (Vp (Zb (Zz (Zg (Zc (Za 14 J J J (Yr J J J ?_))))))))))))))))); intro c14 h14
 refine Za 13 J J J (Ze J J (Vp (Zb ?_)))
 rcases Zi h14 with ⟨rfl, g14⟩ | ⟨rfl, g14⟩
 ·refine Zr J (Zg (Zc (Za 46 J J J (Yr J J J ?_)))); intro c46 h46
  refine Za 45 J J J (Ze J J (Vp (Zb ?_)))
  rcases Zi h46 with ⟨rfl, g46⟩ | ⟨rfl, g46⟩
  ·exact absurd J g46
  ·refine Zt J (Zg (Zc (Za 48 J J J (Yd (cs' := [_, _, _]) J Xy J J J (Za 49 J J J (Zj J tf_30_2 J J (Za 50 J J J (Zp J Yz J J (Za 51 J J J (Yp (xs := [.tmp 48, .tmp 50]) J J (H) by1 ?_))))))))))
   refine Za 47 J J J (Zd J J (Za 52 J J J (Ys J J J (Za 53 J J J (Ys J J J (Za 9 J J J (Ze J J (Za 10 J J J (Ze J J (Vp (Zb (Zg (Zg ?_)))))))))))))
   refine Vi 93 (True) Wr J ?_ _ _ J ?_
   ·skip
    refine Zm 54 J J (Zd J J ⟨J, J⟩) ?_
    refine Wb 55 J J (fun _ q => Xt J J q) ?_; intro c55 h55
    try replace h55 := nott h55 h53
    refine Zm 56 J J (Zd J J ⟨J, J⟩) ?_
    rcases Zi h55 with ⟨rfl, g55⟩ | ⟨rfl, g55⟩
    ·skip
     refine Zu 57 J J J J (Zj J tf_30_3 J J ⟨J, J⟩) ?_
     refine Zu 58 J J J J (Zp J ta_28 J J ⟨J, J⟩) ?_
     refine Zu 59 J J J J (Yy J tu_28 J (.seq _ _) (fun _ => ⟨J, J⟩)) ?_
     refine Xi 60 J J J J (fun _ q => Xq J J J q) ?_; intro c60 h60
     refine Zm 61 J J (Zn J J J ⟨J, J⟩) ?_
     refine Zm 62 J J (Zd J J ⟨J, J⟩) ?_
     rcases Zi h60 with ⟨rfl, g60⟩ | ⟨rfl, g60⟩
     ·skip
      refine Zu 63 J J J J (Zj J Ws J J ⟨J, J⟩) ?_
      refine Zu 64 J J J J (Zp J Xb J J ⟨J, J⟩) ?_
      refine Xi 65 J J J J (fun _ q => Yt J J J q) ?_; intro c65 h65
      refine Zm 66 J J (Zn J J J ⟨J, J⟩) ?_
      refine Zm 67 J J (Zd J J ⟨J, J⟩) ?_
      rcases Zi h65 with ⟨rfl, g65⟩ | ⟨rfl, g65⟩
      ·skip
       refine Zu 68 J J J J (Zj J Ws J J ⟨J, J⟩) ?_
       refine Zu 69 J J J J (Zp J Xb J J ⟨J, J⟩) ?_
       refine Zu 70 J J J J (Zj J Wh J J ⟨J, J⟩) ?_
       refine Zu 71 J J J J (Zp J Vn J J ⟨J, J⟩) ?_
       refine Zu 72 J J J J (Zd J J ⟨J, J⟩) ?_
       refine Zu 73 J J J J (Yc J te_35 J (.seq _ _) J J (hcz) ⟨J, J⟩) ?_
       refine Zu 74 J J J J (Zj J tf_77_2 J J ⟨J, J⟩) ?_
       refine Zu 75 J J J J (Zp J ta_68 J J ⟨J, J⟩) ?_
       refine Zu 76 J J J J (Yy J tu_68 J (.seq _ _) (fun _ => ⟨J, J⟩)) ?_
       refine Xi 77 J J J J (fun _ q => Wa J J J q) ?_; intro c77 h77
       refine Zm 78 J J (Zn J J J ⟨J, J⟩) ?_
       refine Zm 79 J J (Zd J J ⟨J, J⟩) ?_
       rcases Zi h77 with ⟨rfl, g77⟩ | ⟨rfl, g77⟩
       ·omega
       ·skip
        refine Zf 80 J J J J (Zf 81 J J J J (Zf 82 J J J J (Zf 83 J J J J (Zf 84 J J J J (Zf 85 J J J J ?_)))))
        refine Zf 86 J J J J (Zf 87 J J J J (Zf 88 J J J J (Zf 89 J J J J (Zf 90 J J J J (Zf 91 J J J J ?_)))))
        refine Zf 92 J J J J (Zm 93 J J (Zn J J J ⟨J, J⟩) ?_)
        show BoolQ _ _ _ _ _ _
        refine Ua J ?_ by5 by3
        first | (simp_all; done) | grind
      ·skip
       refine Zf 68 J J J J (Zf 69 J J J J (Zf 70 J J J J (Zf 71 J J J J (Zf 72 J J J J (Zf 73 J J J J ?_)))))
       refine Zf 74 J J J J (Zf 75 J J J J (Zf 76 J J J J (Zf 77 J J J J (Zm 78 J J (Zn J J J ⟨J, J⟩) ?_))))
       refine Zm 79 J J (Zd J J ⟨J, J⟩) ?_
       refine Zf 80 J J J J (Zf 81 J J J J (Zf 82 J J J J (Zf 83 J J J J (Zf 84 J J J J (Zf 85 J J J J ?_)))))
       refine Zf 86 J J J J (Zf 87 J J J J (Zf 88 J J J J (Zf 89 J J J J (Zf 90 J J J J (Zf 91 J J J J ?_)))))
       refine Zf 92 J J J J (Zm 93 J J (Zn J J J ⟨J, J⟩) ?_)
       show BoolQ _ _ _ _ _ _
       refine Ua J ?_ by5 by3
       first | (simp_all; done) | grind
     ·skip
      refine Zf 63 J J J J (Zf 64 J J J J (Zf 65 J J J J (Zm 66 J J (Zn J J J ⟨J, J⟩) ?_)))
      refine Zm 67 J J (Zd J J ⟨J, J⟩) ?_
      refine Zf 68 J J J J (Zf 69 J J J J (Zf 70 J J J J (Zf 71 J J J J (Zf 72 J J J J (Zf 73 J J J J ?_)))))
      refine Zf 74 J J J J (Zf 75 J J J J (Zf 76 J J J J (Zf 77 J J J J (Zm 78 J J (Zn J J J ⟨J, J⟩) ?_))))
      refine Zm 79 J J (Zd J J ⟨J, J⟩) ?_
      refine Zf 80 J J J J (Zf 81 J J J J (Zf 82 J J J J (Zf 83 J J J J (Zf 84 J J J J (Zf 85 J J J J ?_)))))
      refine Zf 86 J J J J (Zf 87 J J J J (Zf 88 J J J J (Zf 89 J J J J (Zf 90 J J J J (Zf 91 J J J J ?_)))))
      refine Zf 92 J J J J (Zm 93 J J (Zn J J J ⟨J, J⟩) ?_)
      show BoolQ _ _ _ _ _ _
      refine Ua J ?_ by5 by3
      first | (simp_all; done) | grind
    ·skip
     refine Zf 57 J J J J (Zf 58 J J J J (Zf 59 J J J J (Zf 60 J J J J (Zm 61 J J (Zn J J J ⟨J, J⟩) ?_))))
     refine Zm 62 J J (Zd J J ⟨J, J⟩) ?_
     refine Zf 63 J J J J (Zf 64 J J J J (Zf 65 J J J J (Zm 66 J J (Zn J J J ⟨J, J⟩) ?_)))
     refine Zm 67 J J (Zd J J ⟨J, J⟩) ?_
     refine Zf 68 J J J J (Zf 69 J J J J (Zf 70 J J J J (Zf 71 J J J J (Zf 72 J J J J (Zf 73 J J J J ?_)))))
     refine Zf 74 J J J J (Zf 75 J J J J (Zf 76 J J J J (Zf 77 J J J J (Zm 78 J J (Zn J J J ⟨J, J⟩) ?_))))
     refine Zm 79 J J (Zd J J ⟨J, J⟩) ?_
     refine Zf 80 J J J J (Zf 81 J J J J (Zf 82 J J J J (Zf 83 J J J J (Zf 84 J J J J (Zf 85 J J J J ?_)))))
     refine Zf 86 J J J J (Zf 87 J J J J (Zf 88 J J J J (Zf 89 J J J J (Zf 90 J J J J (Zf 91 J J J J ?_)))))
     refine Zf 92 J J J J (Zm 93 J J (Zn J J J ⟨J, J⟩) ?_)
     show BoolQ _ _ _ _ _ _
     refine Ua J ?_ by5 by3
     first | (simp_all; done) | grind
   intro c93 h93
   refine Zb ?_
   rcases Zi h93 with ⟨rfl, g93⟩ | ⟨rfl, g93⟩
   ·exact absurd trivial g93
   ·exact Zt J (Zg (Zc (Za 8 J J J (Ze J J (Vp (Zb (Ya (Yh J J (Vw _) (Vr _) ⟨⟨false, by simp, J⟩, J⟩))))))))
 ·exact absurd g14 (by decide)
set_option maxHeartbeats 4000000 in
set_option maxRecDepth 100000 in
theorem Holds2_in (v : En) (gs : List Pr) (i : Nat) (c : ByteArray) (j : Nat) (z : Cl) (hj : classI v c = j) (hz : v.cl[j]? = some z) (s : ByteArray) (hs : z.su[i]? = some s) (ks : List Pf) (p : Pr) (hk : ¬ (ks.length = 1 ∧ s = p.c)) : BCall Tryz.prog 14 [.agg v.cells, .seq 5 (Pr.cellss gs), .agg (Pf.mk 2 i c ks).cells, .agg p.cells] False := by
 have H := tClass_c v c
 rw [hj, show decide ((0 : Int) ≤ (j : Int)) = true from decide_eq_true (by omega), show max (j : Int) 0 = j by omega] at H
 clear hj
 have hcz := Cl.cellss_get hz
 have hcs := strs_get hs
 have hjl := get_lt hz
 have hsl := get_lt hs
 have hkl := Pf.cellss_len ks
 obtain ⟨pc, ⟨pk, ps, pn, pl⟩⟩ := p
 obtain ⟨da, cl, ins⟩ := v
 have hcl := Cl.cellss_len cl
 obtain ⟨ys, yv, ysu, yms, yds, yp⟩ := z
 have hls := Xs ysu
 simp only [En.cells, Pf.cells, Pr.cells, Ty.cells, Cl.cells, Cl.su, En.cl, Pr.c] at *
 refine Zw Tryz.func14 J (by kernel_rfl) J (Uc J) ?_
 refine Ye (Zg (Zc (Za 4 J J J (Yu (cs' := [_, _, _]) J J J J (Za 5 J J J (Yu (cs' := [_]) J J J J (Za 6 J J J (Yu (cs' := [_, _, _, _]) J J J J (Za 7 J J J (Yu (cs' := [_, _, _, _, _]) J J J J ?_))))))))))
 refine Za 8 J J J (Ze J J (Vp (Zb (Zg (Zg (Zc (Za 11 J J J (Zj J tf_30_0 J J (Za 12 J J J (Zp J Xb J J (Vp (Zb (Zz (Zg (Zc (Za 14 J J J (Yr J J J ?_))))))))))))))))); intro c14 h14
 refine Za 13 J J J (Ze J J (Vp (Zb ?_)))
 rcases Zi h14 with ⟨rfl, g14⟩ | ⟨rfl, g14⟩
 ·refine Zr J (Zg (Zc (Za 46 J J J (Yr J J J ?_)))); intro c46 h46
  refine Za 45 J J J (Ze J J (Vp (Zb ?_)))
  rcases Zi h46 with ⟨rfl, g46⟩ | ⟨rfl, g46⟩
  ·exact absurd J g46
  ·refine Zt J (Zg (Zc (Za 48 J J J (Yd (cs' := [_, _, _]) J Xy J J J (Za 49 J J J (Zj J tf_30_2 J J (Za 50 J J J (Zp J Yz J J (Za 51 J J J (Yp (xs := [.tmp 48, .tmp 50]) J J (H) by1 ?_))))))))))
   refine Za 47 J J J (Zd J J (Za 52 J J J (Ys J J J (Za 53 J J J (Ys J J J (Za 9 J J J (Ze J J (Za 10 J J J (Ze J J (Vp (Zb (Zg (Zg ?_)))))))))))))
   refine Vi 93 (¬ (ks.length = 1 ∧ s = pc)) Wr J ?_ _ _ J ?_
   ·skip
    refine Zm 54 J J (Zd J J ⟨J, J⟩) ?_
    refine Wb 55 J J (fun _ q => Xt J J q) ?_; intro c55 h55
    try replace h55 := nott h55 h53
    refine Zm 56 J J (Zd J J ⟨J, J⟩) ?_
    rcases Zi h55 with ⟨rfl, g55⟩ | ⟨rfl, g55⟩
    ·skip
     refine Zu 57 J J J J (Zj J tf_30_3 J J ⟨J, J⟩) ?_
     refine Zu 58 J J J J (Zp J ta_28 J J ⟨J, J⟩) ?_
     refine Zu 59 J J J J (Yy J tu_28 J (.seq _ _) (fun _ => ⟨J, J⟩)) ?_
     refine Xi 60 J J J J (fun _ q => Xq J J J q) ?_; intro c60 h60
     refine Zm 61 J J (Zn J J J ⟨J, J⟩) ?_
     refine Zm 62 J J (Zd J J ⟨J, J⟩) ?_
     rcases Zi h60 with ⟨rfl, g60⟩ | ⟨rfl, g60⟩
     ·skip
      refine Zu 63 J J J J (Zj J Ws J J ⟨J, J⟩) ?_
      refine Zu 64 J J J J (Zp J Xb J J ⟨J, J⟩) ?_
      refine Xi 65 J J J J (fun _ q => Yt J J J q) ?_; intro c65 h65
      refine Zm 66 J J (Zn J J J ⟨J, J⟩) ?_
      refine Zm 67 J J (Zd J J ⟨J, J⟩) ?_
      rcases Zi h65 with ⟨rfl, g65⟩ | ⟨rfl, g65⟩
      ·skip
       refine Zu 68 J J J J (Zj J Ws J J ⟨J, J⟩) ?_
       refine Zu 69 J J J J (Zp J Xb J J ⟨J, J⟩) ?_
       refine Zu 70 J J J J (Zj J Wh J J ⟨J, J⟩) ?_
       refine Zu 71 J J J J (Zp J Vn J J ⟨J, J⟩) ?_
       refine Zu 72 J J J J (Zd J J ⟨J, J⟩) ?_
       refine Zu 73 J J J J (Yc J te_35 J (.seq _ _) J J (by first | exact hcz | exact hcs) ⟨J, J⟩) ?_
       refine Zu 74 J J J J (Zj J tf_77_2 J J ⟨J, J⟩) ?_
       refine Zu 75 J J J J (Zp J ta_68 J J ⟨J, J⟩) ?_
       refine Zu 76 J J J J (Yy J tu_68 J (.seq _ _) (fun _ => ⟨J, J⟩)) ?_
       refine Xi 77 J J J J (fun _ q => Wa J J J q) ?_; intro c77 h77
       refine Zm 78 J J (Zn J J J ⟨J, J⟩) ?_
       refine Zm 79 J J (Zd J J ⟨J, J⟩) ?_
       rcases Zi h77 with ⟨rfl, g77⟩ | ⟨rfl, g77⟩
       ·skip
        refine Zu 80 J J J J (Zj J Wh J J ⟨J, J⟩) ?_
        refine Zu 81 J J J J (Zp J Vn J J ⟨J, J⟩) ?_
        refine Zu 82 J J J J (Zd J J ⟨J, J⟩) ?_
        refine Zu 83 J J J J (Yc J te_35 J (.seq _ _) J J (by first | exact hcz | exact hcs) ⟨J, J⟩) ?_
        refine Zu 84 J J J J (Zj J tf_77_2 J J ⟨J, J⟩) ?_
        refine Zu 85 J J J J (Zp J ta_68 J J ⟨J, J⟩) ?_
        refine Zu 86 J J J J (Zj J Ws J J ⟨J, J⟩) ?_
        refine Zu 87 J J J J (Zp J Xb J J ⟨J, J⟩) ?_
        refine Zu 88 J J J J (Yc J te_68 J (.seq _ _) J J (by first | exact hcz | exact hcs) ⟨J, J⟩) ?_
        refine Zu 89 J J J J (Zp J Yz J J ⟨J, J⟩) ?_
        refine Zu 90 J J J J (Zj J Vd J J ⟨J, J⟩) ?_
        refine Zu 91 J J J J (Zp J Yz J J ⟨J, J⟩) ?_
        refine Xi 92 J J J J (fun _ q => op_sneq J J J q) ?_; intro c92 h92
        refine Zm 93 J J (Zn J J J ⟨J, J⟩) ?_
        show BoolQ _ _ _ _ _ _
        refine Ua J ?_ by5 by3
        first | (simp_all; done) | (simp_all; omega) | grind
       ·skip
        refine Zf 80 J J J J (Zf 81 J J J J (Zf 82 J J J J (Zf 83 J J J J (Zf 84 J J J J (Zf 85 J J J J ?_)))))
        refine Zf 86 J J J J (Zf 87 J J J J (Zf 88 J J J J (Zf 89 J J J J (Zf 90 J J J J (Zf 91 J J J J ?_)))))
        refine Zf 92 J J J J (Zm 93 J J (Zn J J J ⟨J, J⟩) ?_)
        show BoolQ _ _ _ _ _ _
        refine Ua J ?_ by5 by3
        first | (simp_all; done) | (simp_all; omega) | grind
      ·skip
       refine Zf 68 J J J J (Zf 69 J J J J (Zf 70 J J J J (Zf 71 J J J J (Zf 72 J J J J (Zf 73 J J J J ?_)))))
       refine Zf 74 J J J J (Zf 75 J J J J (Zf 76 J J J J (Zf 77 J J J J (Zm 78 J J (Zn J J J ⟨J, J⟩) ?_))))
       refine Zm 79 J J (Zd J J ⟨J, J⟩) ?_
       refine Zf 80 J J J J (Zf 81 J J J J (Zf 82 J J J J (Zf 83 J J J J (Zf 84 J J J J (Zf 85 J J J J ?_)))))
       refine Zf 86 J J J J (Zf 87 J J J J (Zf 88 J J J J (Zf 89 J J J J (Zf 90 J J J J (Zf 91 J J J J ?_)))))
       refine Zf 92 J J J J (Zm 93 J J (Zn J J J ⟨J, J⟩) ?_)
       show BoolQ _ _ _ _ _ _
       refine Ua J ?_ by5 by3
       first | (simp_all; done) | (simp_all; omega) | grind
     ·skip
      refine Zf 63 J J J J (Zf 64 J J J J (Zf 65 J J J J (Zm 66 J J (Zn J J J ⟨J, J⟩) ?_)))
      refine Zm 67 J J (Zd J J ⟨J, J⟩) ?_
      refine Zf 68 J J J J (Zf 69 J J J J (Zf 70 J J J J (Zf 71 J J J J (Zf 72 J J J J (Zf 73 J J J J ?_)))))
      refine Zf 74 J J J J (Zf 75 J J J J (Zf 76 J J J J (Zf 77 J J J J (Zm 78 J J (Zn J J J ⟨J, J⟩) ?_))))
      refine Zm 79 J J (Zd J J ⟨J, J⟩) ?_
      refine Zf 80 J J J J (Zf 81 J J J J (Zf 82 J J J J (Zf 83 J J J J (Zf 84 J J J J (Zf 85 J J J J ?_)))))
      refine Zf 86 J J J J (Zf 87 J J J J (Zf 88 J J J J (Zf 89 J J J J (Zf 90 J J J J (Zf 91 J J J J ?_)))))
      refine Zf 92 J J J J (Zm 93 J J (Zn J J J ⟨J, J⟩) ?_)
      show BoolQ _ _ _ _ _ _
      refine Ua J ?_ by5 by3
      first | (simp_all; done) | (simp_all; omega) | grind
    ·skip
     refine Zf 57 J J J J (Zf 58 J J J J (Zf 59 J J J J (Zf 60 J J J J (Zm 61 J J (Zn J J J ⟨J, J⟩) ?_))))
     refine Zm 62 J J (Zd J J ⟨J, J⟩) ?_
     refine Zf 63 J J J J (Zf 64 J J J J (Zf 65 J J J J (Zm 66 J J (Zn J J J ⟨J, J⟩) ?_)))
     refine Zm 67 J J (Zd J J ⟨J, J⟩) ?_
     refine Zf 68 J J J J (Zf 69 J J J J (Zf 70 J J J J (Zf 71 J J J J (Zf 72 J J J J (Zf 73 J J J J ?_)))))
     refine Zf 74 J J J J (Zf 75 J J J J (Zf 76 J J J J (Zf 77 J J J J (Zm 78 J J (Zn J J J ⟨J, J⟩) ?_))))
     refine Zm 79 J J (Zd J J ⟨J, J⟩) ?_
     refine Zf 80 J J J J (Zf 81 J J J J (Zf 82 J J J J (Zf 83 J J J J (Zf 84 J J J J (Zf 85 J J J J ?_)))))
     refine Zf 86 J J J J (Zf 87 J J J J (Zf 88 J J J J (Zf 89 J J J J (Zf 90 J J J J (Zf 91 J J J J ?_)))))
     refine Zf 92 J J J J (Zm 93 J J (Zn J J J ⟨J, J⟩) ?_)
     show BoolQ _ _ _ _ _ _
     refine Ua J ?_ by5 by3
     first | (simp_all; done) | (simp_all; omega) | grind
   intro c93 h93
   refine Zb ?_
   rcases Zi h93 with ⟨rfl, g93⟩ | ⟨rfl, g93⟩
   ·exact absurd hk g93
   ·exact Zt J (Zg (Zc (Za 8 J J J (Ze J J (Vp (Zb (Ya (Yh J J (Vw _) (Vr _) ⟨⟨false, by simp, J⟩, J⟩))))))))
 ·exact absurd g14 (by decide)
set_option maxHeartbeats 4000000 in
set_option maxRecDepth 100000 in
theorem Holds2_go (v : En) (gs : List Pr) (i : Nat) (c : ByteArray) (j : Nat) (z : Cl) (hj : classI v c = j) (hz : v.cl[j]? = some z) (x : Pf) (p : Pr) (hs : z.su[i]? = some p.c) (q : Prop) (HX : BCall Tryz.prog 14 [.agg v.cells, .seq 5 (Pr.cellss gs), .agg x.cells, .agg (Pr.mk c p.t).cells] q) : BCall Tryz.prog 14 [.agg v.cells, .seq 5 (Pr.cellss gs), .agg (Pf.mk 2 i c [x]).cells, .agg p.cells] q := by
 have H := tClass_c v c
 rw [hj, show decide ((0 : Int) ≤ (j : Int)) = true from decide_eq_true (by omega), show max (j : Int) 0 = j by omega] at H
 clear hj
 have hcz := Cl.cellss_get hz
 have hcs := strs_get hs
 have hjl := get_lt hz
 have hsl := get_lt hs
 obtain ⟨pc, ⟨pk, ps, pn, pl⟩⟩ := p
 obtain ⟨da, cl, ins⟩ := v
 have hcl := Cl.cellss_len cl
 obtain ⟨ys, yv, ysu, yms, yds, yp⟩ := z
 have hls := Xs ysu
 obtain ⟨xk, xn, xc, xl⟩ := x
 simp only [En.cells, Pf.cells, Pf.cellss, Pr.cells, Ty.cells, Cl.cells, Cl.su, En.cl, Pr.c, Pr.t] at *
 refine Zw Tryz.func14 J (by kernel_rfl) J (Uc J) ?_
 refine Ye (Zg (Zc (Za 4 J J J (Yu (cs' := [_, _, _]) J J J J (Za 5 J J J (Yu (cs' := [_]) J J J J (Za 6 J J J (Yu (cs' := [_, _, _, _]) J J J J (Za 7 J J J (Yu (cs' := [_, _, _, _, _]) J J J J ?_))))))))))
 refine Za 8 J J J (Ze J J (Vp (Zb (Zg (Zg (Zc (Za 11 J J J (Zj J tf_30_0 J J (Za 12 J J J (Zp J Xb J J (Vp (Zb (Zz (Zg (Zc (Za 14 J J J (Yr J J J ?_))))))))))))))))); intro c14 h14
 refine Za 13 J J J (Ze J J (Vp (Zb ?_)))
 rcases Zi h14 with ⟨rfl, g14⟩ | ⟨rfl, g14⟩
 ·refine Zr J (Zg (Zc (Za 46 J J J (Yr J J J ?_)))); intro c46 h46
  refine Za 45 J J J (Ze J J (Vp (Zb ?_)))
  rcases Zi h46 with ⟨rfl, g46⟩ | ⟨rfl, g46⟩
  ·exact absurd J g46
  ·refine Zt J (Zg (Zc (Za 48 J J J (Yd (cs' := [_, _, _]) J Xy J J J (Za 49 J J J (Zj J tf_30_2 J J (Za 50 J J J (Zp J Yz J J (Za 51 J J J (Yp (xs := [.tmp 48, .tmp 50]) J J (H) by1 ?_))))))))))
   refine Za 47 J J J (Zd J J (Za 52 J J J (Ys J J J (Za 53 J J J (Ys J J J (Za 9 J J J (Ze J J (Za 10 J J J (Ze J J (Vp (Zb (Zg (Zg ?_)))))))))))))
   refine Vi 93 (False) Wr J ?_ _ _ J ?_
   ·skip
    refine Zm 54 J J (Zd J J ⟨J, J⟩) ?_
    refine Wb 55 J J (fun _ q => Xt J J q) ?_; intro c55 h55
    try replace h55 := nott h55 h53
    refine Zm 56 J J (Zd J J ⟨J, J⟩) ?_
    rcases Zi h55 with ⟨rfl, g55⟩ | ⟨rfl, g55⟩
    ·skip
     refine Zu 57 J J J J (Zj J tf_30_3 J J ⟨J, J⟩) ?_
     refine Zu 58 J J J J (Zp J ta_28 J J ⟨J, J⟩) ?_
     refine Zu 59 J J J J (Yy J tu_28 J (.seq _ _) (fun _ => ⟨J, J⟩)) ?_
     refine Xi 60 J J J J (fun _ q => Xq J J J q) ?_; intro c60 h60
     refine Zm 61 J J (Zn J J J ⟨J, J⟩) ?_
     refine Zm 62 J J (Zd J J ⟨J, J⟩) ?_
     rcases Zi h60 with ⟨rfl, g60⟩ | ⟨rfl, g60⟩
     ·skip
      refine Zu 63 J J J J (Zj J Ws J J ⟨J, J⟩) ?_
      refine Zu 64 J J J J (Zp J Xb J J ⟨J, J⟩) ?_
      refine Xi 65 J J J J (fun _ q => Yt J J J q) ?_; intro c65 h65
      refine Zm 66 J J (Zn J J J ⟨J, J⟩) ?_
      refine Zm 67 J J (Zd J J ⟨J, J⟩) ?_
      rcases Zi h65 with ⟨rfl, g65⟩ | ⟨rfl, g65⟩
      ·skip
       refine Zu 68 J J J J (Zj J Ws J J ⟨J, J⟩) ?_
       refine Zu 69 J J J J (Zp J Xb J J ⟨J, J⟩) ?_
       refine Zu 70 J J J J (Zj J Wh J J ⟨J, J⟩) ?_
       refine Zu 71 J J J J (Zp J Vn J J ⟨J, J⟩) ?_
       refine Zu 72 J J J J (Zd J J ⟨J, J⟩) ?_
       refine Zu 73 J J J J (Yc J te_35 J (.seq _ _) J J (by first | exact hcz | exact hcs) ⟨J, J⟩) ?_
       refine Zu 74 J J J J (Zj J tf_77_2 J J ⟨J, J⟩) ?_
       refine Zu 75 J J J J (Zp J ta_68 J J ⟨J, J⟩) ?_
       refine Zu 76 J J J J (Yy J tu_68 J (.seq _ _) (fun _ => ⟨J, J⟩)) ?_
       refine Xi 77 J J J J (fun _ q => Wa J J J q) ?_; intro c77 h77
       refine Zm 78 J J (Zn J J J ⟨J, J⟩) ?_
       refine Zm 79 J J (Zd J J ⟨J, J⟩) ?_
       rcases Zi h77 with ⟨rfl, g77⟩ | ⟨rfl, g77⟩
       ·skip
        refine Zu 80 J J J J (Zj J Wh J J ⟨J, J⟩) ?_
        refine Zu 81 J J J J (Zp J Vn J J ⟨J, J⟩) ?_
        refine Zu 82 J J J J (Zd J J ⟨J, J⟩) ?_
        refine Zu 83 J J J J (Yc J te_35 J (.seq _ _) J J (by first | exact hcz | exact hcs) ⟨J, J⟩) ?_
        refine Zu 84 J J J J (Zj J tf_77_2 J J ⟨J, J⟩) ?_
        refine Zu 85 J J J J (Zp J ta_68 J J ⟨J, J⟩) ?_
        refine Zu 86 J J J J (Zj J Ws J J ⟨J, J⟩) ?_
        refine Zu 87 J J J J (Zp J Xb J J ⟨J, J⟩) ?_
        refine Zu 88 J J J J (Yc J te_68 J (.seq _ _) J J (by first | exact hcz | exact hcs) ⟨J, J⟩) ?_
        refine Zu 89 J J J J (Zp J Yz J J ⟨J, J⟩) ?_
        refine Zu 90 J J J J (Zj J Vd J J ⟨J, J⟩) ?_
        refine Zu 91 J J J J (Zp J Yz J J ⟨J, J⟩) ?_
        refine Xi 92 J J J J (fun _ q => op_sneq J J J q) ?_; intro c92 h92
        refine Zm 93 J J (Zn J J J ⟨J, J⟩) ?_
        show BoolQ _ _ _ _ _ _
        refine Ua J ?_ by5 by3
        first | (simp_all; done) | (simp_all; omega) | grind
       ·skip
        refine Zf 80 J J J J (Zf 81 J J J J (Zf 82 J J J J (Zf 83 J J J J (Zf 84 J J J J (Zf 85 J J J J ?_)))))
        refine Zf 86 J J J J (Zf 87 J J J J (Zf 88 J J J J (Zf 89 J J J J (Zf 90 J J J J (Zf 91 J J J J ?_)))))
        refine Zf 92 J J J J (Zm 93 J J (Zn J J J ⟨J, J⟩) ?_)
        show BoolQ _ _ _ _ _ _
        refine Ua J ?_ by5 by3
        first | (simp_all; done) | (simp_all; omega) | grind
      ·skip
       refine Zf 68 J J J J (Zf 69 J J J J (Zf 70 J J J J (Zf 71 J J J J (Zf 72 J J J J (Zf 73 J J J J ?_)))))
       refine Zf 74 J J J J (Zf 75 J J J J (Zf 76 J J J J (Zf 77 J J J J (Zm 78 J J (Zn J J J ⟨J, J⟩) ?_))))
       refine Zm 79 J J (Zd J J ⟨J, J⟩) ?_
       refine Zf 80 J J J J (Zf 81 J J J J (Zf 82 J J J J (Zf 83 J J J J (Zf 84 J J J J (Zf 85 J J J J ?_)))))
       refine Zf 86 J J J J (Zf 87 J J J J (Zf 88 J J J J (Zf 89 J J J J (Zf 90 J J J J (Zf 91 J J J J ?_)))))
       refine Zf 92 J J J J (Zm 93 J J (Zn J J J ⟨J, J⟩) ?_)
       show BoolQ _ _ _ _ _ _
       refine Ua J ?_ by5 by3
       first | (simp_all; done) | (simp_all; omega) | grind
     ·skip
      refine Zf 63 J J J J (Zf 64 J J J J (Zf 65 J J J J (Zm 66 J J (Zn J J J ⟨J, J⟩) ?_)))
      refine Zm 67 J J (Zd J J ⟨J, J⟩) ?_
      refine Zf 68 J J J J (Zf 69 J J J J (Zf 70 J J J J (Zf 71 J J J J (Zf 72 J J J J (Zf 73 J J J J ?_)))))
      refine Zf 74 J J J J (Zf 75 J J J J (Zf 76 J J J J (Zf 77 J J J J (Zm 78 J J (Zn J J J ⟨J, J⟩) ?_))))
      refine Zm 79 J J (Zd J J ⟨J, J⟩) ?_
      refine Zf 80 J J J J (Zf 81 J J J J (Zf 82 J J J J (Zf 83 J J J J (Zf 84 J J J J (Zf 85 J J J J ?_)))))
      refine Zf 86 J J J J (Zf 87 J J J J (Zf 88 J J J J (Zf 89 J J J J (Zf 90 J J J J (Zf 91 J J J J ?_)))))
      refine Zf 92 J J J J (Zm 93 J J (Zn J J J ⟨J, J⟩) ?_)
      show BoolQ _ _ _ _ _ _
      refine Ua J ?_ by5 by3
      first | (simp_all; done) | (simp_all; omega) | grind
    ·skip
     refine Zf 57 J J J J (Zf 58 J J J J (Zf 59 J J J J (Zf 60 J J J J (Zm 61 J J (Zn J J J ⟨J, J⟩) ?_))))
     refine Zm 62 J J (Zd J J ⟨J, J⟩) ?_
     refine Zf 63 J J J J (Zf 64 J J J J (Zf 65 J J J J (Zm 66 J J (Zn J J J ⟨J, J⟩) ?_)))
     refine Zm 67 J J (Zd J J ⟨J, J⟩) ?_
     refine Zf 68 J J J J (Zf 69 J J J J (Zf 70 J J J J (Zf 71 J J J J (Zf 72 J J J J (Zf 73 J J J J ?_)))))
     refine Zf 74 J J J J (Zf 75 J J J J (Zf 76 J J J J (Zf 77 J J J J (Zm 78 J J (Zn J J J ⟨J, J⟩) ?_))))
     refine Zm 79 J J (Zd J J ⟨J, J⟩) ?_
     refine Zf 80 J J J J (Zf 81 J J J J (Zf 82 J J J J (Zf 83 J J J J (Zf 84 J J J J (Zf 85 J J J J ?_)))))
     refine Zf 86 J J J J (Zf 87 J J J J (Zf 88 J J J J (Zf 89 J J J J (Zf 90 J J J J (Zf 91 J J J J ?_)))))
     refine Zf 92 J J J J (Zm 93 J J (Zn J J J ⟨J, J⟩) ?_)
     show BoolQ _ _ _ _ _ _
     refine Ua J ?_ by5 by3
     first | (simp_all; done) | (simp_all; omega) | grind
   intro c93 h93
   refine Zb ?_
   rcases Zi h93 with ⟨rfl, g93⟩ | ⟨rfl, g93⟩
   ·refine Zr J (Zv (Zb (Zg (c_drawn Wr J (Zm 94 J J (Yd (cs' := [_, _, _]) J Xy J J J ⟨J, J⟩) ?_)))))
    refine Zm 95 J J (Zp J ta_22 J J ⟨J, J⟩) ?_
    refine Zm 96 J J (Zj J tf_30_3 J J ⟨J, J⟩) ?_
    refine Zm 97 J J (Zp J ta_28 J J ⟨J, J⟩) ?_
    refine Zm 98 J J (Yc J te_28 J (.seq _ _) J J (J) ⟨J, J⟩) ?_
    refine Zm 99 J J (Yd (cs' := [_, _, _, _]) J Vk J J J ⟨J, J⟩) ?_
    refine Zm 100 J J (Zj J tf_30_2 J J ⟨J, J⟩) ?_
    refine Zm 101 J J (Zp J Yz J J ⟨J, J⟩) ?_
    refine Zm 102 J J (Zj J Wn J J ⟨J, J⟩) ?_
    refine Zm 103 J J (Yd (cs' := [_, _, _, _]) J Xx J J J ⟨J, J⟩) ?_
    refine Zm 104 J J (Ym (ns := [0, 1]) (xs := [.tmp 101, .tmp 103]) J tz_27 J tfl_27 J J J J ⟨J, J⟩) ?_
    refine Wb 105 J J (fun _ q => Yf (xs := [.tmp 94, .tmp 95, .tmp 99, .tmp 104]) J J (HX) by1 q) ?_; intro c105 h105
    refine Zm 8 J J (Ze J J ⟨J, J⟩) ?_
    show AGo _ _ _ _ _ _ _
    exact Zb (Ya (Yh J J (Vw _) (Vr _) ⟨⟨_, h105, J⟩, J⟩))
   ·exact False.elim g93
 ·exact absurd g14 (by decide)
theorem bsame {f : FuncId} {vs : List AV} {p q : Prop} (h : BCall Tryz.prog f vs p) (e : p ↔ q) : BCall Tryz.prog f vs q := by rw [← propext e]; exact h
set_option maxHeartbeats 4000000 in
set_option maxRecDepth 100000 in
theorem Holds3_out (v : En) (gs : List Pr) (n : Int) (c : ByteArray) (hn : n < 0 ∨ v.ins.length ≤ n) (ks : List Pf) (p : Pr) : BCall Tryz.prog 14 [.agg v.cells, .seq 5 (Pr.cellss gs), .agg (Pf.mk 3 n c ks).cells, .agg p.cells] False := by
 obtain ⟨pc, ⟨pk, ps, pn, pl⟩⟩ := p
 obtain ⟨da, cl, ins⟩ := v
 have hil := In.cellss_len ins
 simp only [En.cells, Pf.cells, Pr.cells, Ty.cells, En.ins] at *
 refine Zw Tryz.func14 J (by kernel_rfl) J (Uc J) ?_
 refine Ye (Zg (Zc (Za 4 J J J (Yu (cs' := [_, _, _]) J J J J (Za 5 J J J (Yu (cs' := [_]) J J J J (Za 6 J J J (Yu (cs' := [_, _, _, _]) J J J J (Za 7 J J J (Yu (cs' := [_, _, _, _, _]) J J J J ?_))))))))))
 refine Za 8 J J J (Ze J J (Vp (Zb (Zg (Zg (Zc (Za 11 J J J (Zj J tf_30_0 J J (Za 12 J J J (Zp J Xb J J (Vp (Zb (Zz (Zg (Zc (Za 14 J J J (Yr J J J ?_))))))))))))))))); intro c14 h14
 refine Za 13 J J J (Ze J J (Vp (Zb ?_)))
 rcases Zi h14 with ⟨rfl, g14⟩ | ⟨rfl, g14⟩
 ·refine Zr J (Zg (Zc (Za 46 J J J (Yr J J J ?_)))); intro c46 h46
  refine Za 45 J J J (Ze J J (Vp (Zb ?_)))
  rcases Zi h46 with ⟨rfl, g46⟩ | ⟨rfl, g46⟩
  ·refine Zr J (Zg (Zc (Za 107 J J J (Yr J J J ?_)))); intro c107 h107
   refine Za 106 J J J (Ze J J (Vp (Zb ?_)))
   rcases Zi h107 with ⟨rfl, g107⟩ | ⟨rfl, g107⟩
   ·exact absurd J g107
   ·refine Zt J (Zg (Zg (Vi 171 (True) Wr J ?_ _ _ J ?_)))
    ·skip
     refine Zm 108 J J (Zj J tf_30_2 J J ⟨J, J⟩) ?_
     refine Zm 109 J J (Zp J Yz J J ⟨J, J⟩) ?_
     refine Wb 110 J J (fun _ q => op_sneq J J J q) ?_; intro c110 h110
     refine Zm 111 J J (Zd J J ⟨J, J⟩) ?_
     rcases Zi h110 with ⟨rfl, g110⟩ | ⟨rfl, g110⟩
     ·skip
      refine Zu 112 J J J J (Zj J Ws J J ⟨J, J⟩) ?_
      refine Zu 113 J J J J (Zp J Xb J J ⟨J, J⟩) ?_
      refine Xi 114 J J J J (fun _ q => Yt J J J q) ?_; intro c114 h114
      refine Zm 115 J J (Zn J J J ⟨J, J⟩) ?_
      refine Zm 116 J J (Zd J J ⟨J, J⟩) ?_
      rcases Zi h114 with ⟨rfl, g114⟩ | ⟨rfl, g114⟩
      ·skip
       refine Zu 117 J J J J (Zj J Ws J J ⟨J, J⟩) ?_
       refine Zu 118 J J J J (Zp J Xb J J ⟨J, J⟩) ?_
       refine Zu 119 J J J J (Zj J Va J J ⟨J, J⟩) ?_
       refine Zu 120 J J J J (Zp J ta_36 J J ⟨J, J⟩) ?_
       refine Zu 121 J J J J (Yy J tu_36 J (.seq _ _) (fun _ => ⟨J, J⟩)) ?_
       refine Xi 122 J J J J (fun _ q => Wa J J J q) ?_; intro c122 h122
       refine Zm 123 J J (Zn J J J ⟨J, J⟩) ?_
       refine Zm 124 J J (Zd J J ⟨J, J⟩) ?_
       rcases Zi h122 with ⟨rfl, g122⟩ | ⟨rfl, g122⟩
       ·omega
       ·skip
        refine Zf 125 J J J J (Zf 126 J J J J (Zf 127 J J J J (Zf 128 J J J J (Zf 129 J J J J (Zf 130 J J J J ?_)))))
        refine Zf 131 J J J J (Zf 132 J J J J (Zf 133 J J J J (Zf 134 J J J J (Zm 135 J J (Zn J J J ⟨J, J⟩) ?_))))
        refine Zm 136 J J (Zd J J ⟨J, J⟩) ?_
        refine Zf 137 J J J J (Zf 138 J J J J (Zf 139 J J J J (Zf 140 J J J J (Zf 141 J J J J (Zf 142 J J J J ?_)))))
        refine Zf 143 J J J J (Zf 144 J J J J (Zf 145 J J J J (Zf 146 J J J J (Zf 147 J J J J (Zf 148 J J J J ?_)))))
        refine Zm 149 J J (Zn J J J ⟨J, J⟩) ?_
        refine Zm 150 J J (Zd J J ⟨J, J⟩) ?_
        refine Zf 151 J J J J (Zf 152 J J J J (Zf 153 J J J J (Zf 154 J J J J (Zm 155 J J (Zn J J J ⟨J, J⟩) ?_))))
        refine Zm 156 J J (Zd J J ⟨J, J⟩) ?_
        refine Zf 157 J J J J (Zf 158 J J J J (Zf 159 J J J J (Zf 160 J J J J (Zf 161 J J J J (Zf 162 J J J J ?_)))))
        refine Zf 163 J J J J (Zf 164 J J J J (Zf 165 J J J J (Zf 166 J J J J (Zf 167 J J J J (Zf 168 J J J J ?_)))))
        refine Zf 169 J J J J (Zf 170 J J J J (Zm 171 J J (Zn J J J ⟨J, J⟩) ?_))
        show BoolQ _ _ _ _ _ _
        refine Ua J ?_ by5 by3
        first | (simp_all; done) | grind
      ·skip
       refine Zf 117 J J J J (Zf 118 J J J J (Zf 119 J J J J (Zf 120 J J J J (Zf 121 J J J J (Zf 122 J J J J ?_)))))
       refine Zm 123 J J (Zn J J J ⟨J, J⟩) ?_
       refine Zm 124 J J (Zd J J ⟨J, J⟩) ?_
       refine Zf 125 J J J J (Zf 126 J J J J (Zf 127 J J J J (Zf 128 J J J J (Zf 129 J J J J (Zf 130 J J J J ?_)))))
       refine Zf 131 J J J J (Zf 132 J J J J (Zf 133 J J J J (Zf 134 J J J J (Zm 135 J J (Zn J J J ⟨J, J⟩) ?_))))
       refine Zm 136 J J (Zd J J ⟨J, J⟩) ?_
       refine Zf 137 J J J J (Zf 138 J J J J (Zf 139 J J J J (Zf 140 J J J J (Zf 141 J J J J (Zf 142 J J J J ?_)))))
       refine Zf 143 J J J J (Zf 144 J J J J (Zf 145 J J J J (Zf 146 J J J J (Zf 147 J J J J (Zf 148 J J J J ?_)))))
       refine Zm 149 J J (Zn J J J ⟨J, J⟩) ?_
       refine Zm 150 J J (Zd J J ⟨J, J⟩) ?_
       refine Zf 151 J J J J (Zf 152 J J J J (Zf 153 J J J J (Zf 154 J J J J (Zm 155 J J (Zn J J J ⟨J, J⟩) ?_))))
       refine Zm 156 J J (Zd J J ⟨J, J⟩) ?_
       refine Zf 157 J J J J (Zf 158 J J J J (Zf 159 J J J J (Zf 160 J J J J (Zf 161 J J J J (Zf 162 J J J J ?_)))))
       refine Zf 163 J J J J (Zf 164 J J J J (Zf 165 J J J J (Zf 166 J J J J (Zf 167 J J J J (Zf 168 J J J J ?_)))))
       refine Zf 169 J J J J (Zf 170 J J J J (Zm 171 J J (Zn J J J ⟨J, J⟩) ?_))
       show BoolQ _ _ _ _ _ _
       refine Ua J ?_ by5 by3
       first | (simp_all; done) | grind
     ·skip
      refine Zf 112 J J J J (Zf 113 J J J J (Zf 114 J J J J (Zm 115 J J (Zn J J J ⟨J, J⟩) ?_)))
      refine Zm 116 J J (Zd J J ⟨J, J⟩) ?_
      refine Zf 117 J J J J (Zf 118 J J J J (Zf 119 J J J J (Zf 120 J J J J (Zf 121 J J J J (Zf 122 J J J J ?_)))))
      refine Zm 123 J J (Zn J J J ⟨J, J⟩) ?_
      refine Zm 124 J J (Zd J J ⟨J, J⟩) ?_
      refine Zf 125 J J J J (Zf 126 J J J J (Zf 127 J J J J (Zf 128 J J J J (Zf 129 J J J J (Zf 130 J J J J ?_)))))
      refine Zf 131 J J J J (Zf 132 J J J J (Zf 133 J J J J (Zf 134 J J J J (Zm 135 J J (Zn J J J ⟨J, J⟩) ?_))))
      refine Zm 136 J J (Zd J J ⟨J, J⟩) ?_
      refine Zf 137 J J J J (Zf 138 J J J J (Zf 139 J J J J (Zf 140 J J J J (Zf 141 J J J J (Zf 142 J J J J ?_)))))
      refine Zf 143 J J J J (Zf 144 J J J J (Zf 145 J J J J (Zf 146 J J J J (Zf 147 J J J J (Zf 148 J J J J ?_)))))
      refine Zm 149 J J (Zn J J J ⟨J, J⟩) ?_
      refine Zm 150 J J (Zd J J ⟨J, J⟩) ?_
      refine Zf 151 J J J J (Zf 152 J J J J (Zf 153 J J J J (Zf 154 J J J J (Zm 155 J J (Zn J J J ⟨J, J⟩) ?_))))
      refine Zm 156 J J (Zd J J ⟨J, J⟩) ?_
      refine Zf 157 J J J J (Zf 158 J J J J (Zf 159 J J J J (Zf 160 J J J J (Zf 161 J J J J (Zf 162 J J J J ?_)))))
      refine Zf 163 J J J J (Zf 164 J J J J (Zf 165 J J J J (Zf 166 J J J J (Zf 167 J J J J (Zf 168 J J J J ?_)))))
      refine Zf 169 J J J J (Zf 170 J J J J (Zm 171 J J (Zn J J J ⟨J, J⟩) ?_))
      show BoolQ _ _ _ _ _ _
      refine Ua J ?_ by5 by3
      first | (simp_all; done) | grind
    intro c171 h171
    refine Zb ?_
    rcases Zi h171 with ⟨rfl, g171⟩ | ⟨rfl, g171⟩
    ·exact absurd trivial g171
    ·exact Zt J (Zg (Zc (Za 8 J J J (Ze J J (Vp (Zb (Ya (Yh J J (Vw _) (Vr _) ⟨⟨false, by simp, J⟩, J⟩))))))))
  ·exact absurd g46 (by decide)
 ·exact absurd g14 (by decide)
set_option maxHeartbeats 4000000 in
set_option maxRecDepth 100000 in
theorem Holds3_no (v : En) (gs : List Pr) (i : Nat) (c : ByteArray) (y : In) (hy : v.ins[i]? = some y) (ks : List Pf) (p : Pr) (hk : ¬ (c = kE ∧ fitsP y p)) : BCall Tryz.prog 14 [.agg v.cells, .seq 5 (Pr.cellss gs), .agg (Pf.mk 3 i c ks).cells, .agg p.cells] False := by
 have hcy := In.cellss_get hy
 have hyl := get_lt hy
 obtain ⟨pc, ⟨pk, ps, pn, pl⟩⟩ := p
 obtain ⟨da, cl, ins⟩ := v
 have hil := In.cellss_len ins
 obtain ⟨yc, ⟨yk, ys, yn, yl⟩, ycx, ybs, yp⟩ := y
 have hl1 := Ty.cellss_len yl
 have hl2 := Ty.cellss_len pl
 unfold fitsP at hk
 simp only [En.cells, Pf.cells, Pr.cells, Ty.cells, In.cells, En.ins, In.c, In.hd, Pr.c, Pr.t, Ty.kind, Ty.name, Ty.kids, List.cons_append, List.nil_append] at *
 refine Zw Tryz.func14 J (by kernel_rfl) J (Uc J) ?_
 refine Ye (Zg (Zc (Za 4 J J J (Yu (cs' := [_, _, _]) J J J J (Za 5 J J J (Yu (cs' := [_]) J J J J (Za 6 J J J (Yu (cs' := [_, _, _, _]) J J J J (Za 7 J J J (Yu (cs' := [_, _, _, _, _]) J J J J ?_))))))))))
 refine Za 8 J J J (Ze J J (Vp (Zb (Zg (Zg (Zc (Za 11 J J J (Zj J tf_30_0 J J (Za 12 J J J (Zp J Xb J J (Vp (Zb (Zz (Zg (Zc (Za 14 J J J (Yr J J J ?_))))))))))))))))); intro c14 h14
 refine Za 13 J J J (Ze J J (Vp (Zb ?_)))
 rcases Zi h14 with ⟨rfl, g14⟩ | ⟨rfl, g14⟩
 ·refine Zr J (Zg (Zc (Za 46 J J J (Yr J J J ?_)))); intro c46 h46
  refine Za 45 J J J (Ze J J (Vp (Zb ?_)))
  rcases Zi h46 with ⟨rfl, g46⟩ | ⟨rfl, g46⟩
  ·refine Zr J (Zg (Zc (Za 107 J J J (Yr J J J ?_)))); intro c107 h107
   refine Za 106 J J J (Ze J J (Vp (Zb ?_)))
   rcases Zi h107 with ⟨rfl, g107⟩ | ⟨rfl, g107⟩
   ·exact absurd J g107
   ·refine Zt J (Zg (Zg (Vi 171 (¬ (c = kE ∧ yc = pc ∧ pk = 3 ∧ ys = ps ∧ yl.length = pl.length)) Wr J ?_ _ _ J ?_)))
    ·skip
     refine Zm 108 J J (Zj J tf_30_2 J J ⟨J, J⟩) ?_
     refine Zm 109 J J (Zp J Yz J J ⟨J, J⟩) ?_
     refine Wb 110 J J (fun _ q => op_sneq J J J q) ?_; intro c110 h110
     refine Zm 111 J J (Zd J J ⟨J, J⟩) ?_
     rcases Zi h110 with ⟨rfl, g110⟩ | ⟨rfl, g110⟩
     ·skip
      refine Zu 112 J J J J (Zj J Ws J J ⟨J, J⟩) ?_
      refine Zu 113 J J J J (Zp J Xb J J ⟨J, J⟩) ?_
      refine Xi 114 J J J J (fun _ q => Yt J J J q) ?_; intro c114 h114
      refine Zm 115 J J (Zn J J J ⟨J, J⟩) ?_
      refine Zm 116 J J (Zd J J ⟨J, J⟩) ?_
      rcases Zi h114 with ⟨rfl, g114⟩ | ⟨rfl, g114⟩
      ·skip
       refine Zu 117 J J J J (Zj J Ws J J ⟨J, J⟩) ?_
       refine Zu 118 J J J J (Zp J Xb J J ⟨J, J⟩) ?_
       refine Zu 119 J J J J (Zj J Va J J ⟨J, J⟩) ?_
       refine Zu 120 J J J J (Zp J ta_36 J J ⟨J, J⟩) ?_
       refine Zu 121 J J J J (Yy J tu_36 J (.seq _ _) (fun _ => ⟨J, J⟩)) ?_
       refine Xi 122 J J J J (fun _ q => Wa J J J q) ?_; intro c122 h122
       refine Zm 123 J J (Zn J J J ⟨J, J⟩) ?_
       refine Zm 124 J J (Zd J J ⟨J, J⟩) ?_
       rcases Zi h122 with ⟨rfl, g122⟩ | ⟨rfl, g122⟩
       ·skip
        refine Zu 125 J J J J (Zj J Va J J ⟨J, J⟩) ?_
        refine Zu 126 J J J J (Zp J ta_36 J J ⟨J, J⟩) ?_
        refine Zu 127 J J J J (Zj J Ws J J ⟨J, J⟩) ?_
        refine Zu 128 J J J J (Zp J Xb J J ⟨J, J⟩) ?_
        refine Zu 129 J J J J (Yc J te_36 J (.seq _ _) J J (hcy) ⟨J, J⟩) ?_
        refine Zu 130 J J J J (Zj J tf_73_0 J J ⟨J, J⟩) ?_
        refine Zu 131 J J J J (Zp J Yz J J ⟨J, J⟩) ?_
        refine Zu 132 J J J J (Zj J Vd J J ⟨J, J⟩) ?_
        refine Zu 133 J J J J (Zp J Yz J J ⟨J, J⟩) ?_
        refine Xi 134 J J J J (fun _ q => op_sneq J J J q) ?_; intro c134 h134
        refine Zm 135 J J (Zn J J J ⟨J, J⟩) ?_
        refine Zm 136 J J (Zd J J ⟨J, J⟩) ?_
        rcases Zi h134 with ⟨rfl, g134⟩ | ⟨rfl, g134⟩
        ·skip
         refine Zu 137 J J J J (Zj J Va J J ⟨J, J⟩) ?_
         refine Zu 138 J J J J (Zp J ta_36 J J ⟨J, J⟩) ?_
         refine Zu 139 J J J J (Zj J Ws J J ⟨J, J⟩) ?_
         refine Zu 140 J J J J (Zp J Xb J J ⟨J, J⟩) ?_
         refine Zu 141 J J J J (Yc J te_36 J (.seq _ _) J J (hcy) ⟨J, J⟩) ?_
         refine Zu 142 J J J J (Zj J Vc J J ⟨J, J⟩) ?_
         refine Zu 143 J J J J (Zj J Wm J J ⟨J, J⟩) ?_
         refine Zu 144 J J J J (Zp J Yz J J ⟨J, J⟩) ?_
         refine Zu 145 J J J J (Zj J Wn J J ⟨J, J⟩) ?_
         refine Zu 146 J J J J (Zj J Wm J J ⟨J, J⟩) ?_
         refine Zu 147 J J J J (Zp J Yz J J ⟨J, J⟩) ?_
         refine Xi 148 J J J J (fun _ q => op_sneq J J J q) ?_; intro c148 h148
         refine Zm 149 J J (Zn J J J ⟨J, J⟩) ?_
         refine Zm 150 J J (Zd J J ⟨J, J⟩) ?_
         rcases Zi h148 with ⟨rfl, g148⟩ | ⟨rfl, g148⟩
         ·skip
          refine Zu 151 J J J J (Zj J Wn J J ⟨J, J⟩) ?_
          refine Zu 152 J J J J (Zj J tf_25_0 J J ⟨J, J⟩) ?_
          refine Zu 153 J J J J (Zp J Xb J J ⟨J, J⟩) ?_
          refine Xi 154 J J J J (fun _ q => Xq J J J q) ?_; intro c154 h154
          refine Zm 155 J J (Zn J J J ⟨J, J⟩) ?_
          refine Zm 156 J J (Zd J J ⟨J, J⟩) ?_
          rcases Zi h154 with ⟨rfl, g154⟩ | ⟨rfl, g154⟩
          ·skip
           refine Zu 157 J J J J (Zj J Wn J J ⟨J, J⟩) ?_
           refine Zu 158 J J J J (Zj J Wc J J ⟨J, J⟩) ?_
           refine Zu 159 J J J J (Zp J Ve J J ⟨J, J⟩) ?_
           refine Zu 160 J J J J (Yy J tu_23 J (.seq _ _) (fun _ => ⟨J, J⟩)) ?_
           refine Zu 161 J J J J (Zj J Va J J ⟨J, J⟩) ?_
           refine Zu 162 J J J J (Zp J ta_36 J J ⟨J, J⟩) ?_
           refine Zu 163 J J J J (Zj J Ws J J ⟨J, J⟩) ?_
           refine Zu 164 J J J J (Zp J Xb J J ⟨J, J⟩) ?_
           refine Zu 165 J J J J (Yc J te_36 J (.seq _ _) J J (hcy) ⟨J, J⟩) ?_
           refine Zu 166 J J J J (Zj J Vc J J ⟨J, J⟩) ?_
           refine Zu 167 J J J J (Zj J Wc J J ⟨J, J⟩) ?_
           refine Zu 168 J J J J (Zp J Ve J J ⟨J, J⟩) ?_
           refine Zu 169 J J J J (Yy J tu_23 J (.seq _ _) (fun _ => ⟨J, J⟩)) ?_
           refine Xi 170 J J J J (fun _ q => Xq J J J q) ?_; intro c170 h170
           refine Zm 171 J J (Zn J J J ⟨J, J⟩) ?_
           show BoolQ _ _ _ _ _ _
           refine Ua J ?_ by5 by3
           first | (simp_all; done) | (simp_all; omega) | grind
          ·skip
           refine Zf 157 J J J J (Zf 158 J J J J (Zf 159 J J J J (Zf 160 J J J J (Zf 161 J J J J (Zf 162 J J J J ?_)))))
           refine Zf 163 J J J J (Zf 164 J J J J (Zf 165 J J J J (Zf 166 J J J J (Zf 167 J J J J (Zf 168 J J J J ?_)))))
           refine Zf 169 J J J J (Zf 170 J J J J (Zm 171 J J (Zn J J J ⟨J, J⟩) ?_))
           show BoolQ _ _ _ _ _ _
           refine Ua J ?_ by5 by3
           first | (simp_all; done) | (simp_all; omega) | grind
         ·skip
          refine Zf 151 J J J J (Zf 152 J J J J (Zf 153 J J J J (Zf 154 J J J J (Zm 155 J J (Zn J J J ⟨J, J⟩) ?_))))
          refine Zm 156 J J (Zd J J ⟨J, J⟩) ?_
          refine Zf 157 J J J J (Zf 158 J J J J (Zf 159 J J J J (Zf 160 J J J J (Zf 161 J J J J (Zf 162 J J J J ?_)))))
          refine Zf 163 J J J J (Zf 164 J J J J (Zf 165 J J J J (Zf 166 J J J J (Zf 167 J J J J (Zf 168 J J J J ?_)))))
          refine Zf 169 J J J J (Zf 170 J J J J (Zm 171 J J (Zn J J J ⟨J, J⟩) ?_))
          show BoolQ _ _ _ _ _ _
          refine Ua J ?_ by5 by3
          first | (simp_all; done) | (simp_all; omega) | grind
        ·skip
         refine Zf 137 J J J J (Zf 138 J J J J (Zf 139 J J J J (Zf 140 J J J J (Zf 141 J J J J (Zf 142 J J J J ?_)))))
         refine Zf 143 J J J J (Zf 144 J J J J (Zf 145 J J J J (Zf 146 J J J J (Zf 147 J J J J (Zf 148 J J J J ?_)))))
         refine Zm 149 J J (Zn J J J ⟨J, J⟩) ?_
         refine Zm 150 J J (Zd J J ⟨J, J⟩) ?_
         refine Zf 151 J J J J (Zf 152 J J J J (Zf 153 J J J J (Zf 154 J J J J (Zm 155 J J (Zn J J J ⟨J, J⟩) ?_))))
         refine Zm 156 J J (Zd J J ⟨J, J⟩) ?_
         refine Zf 157 J J J J (Zf 158 J J J J (Zf 159 J J J J (Zf 160 J J J J (Zf 161 J J J J (Zf 162 J J J J ?_)))))
         refine Zf 163 J J J J (Zf 164 J J J J (Zf 165 J J J J (Zf 166 J J J J (Zf 167 J J J J (Zf 168 J J J J ?_)))))
         refine Zf 169 J J J J (Zf 170 J J J J (Zm 171 J J (Zn J J J ⟨J, J⟩) ?_))
         show BoolQ _ _ _ _ _ _
         refine Ua J ?_ by5 by3
         first | (simp_all; done) | (simp_all; omega) | grind
       ·skip
        refine Zf 125 J J J J (Zf 126 J J J J (Zf 127 J J J J (Zf 128 J J J J (Zf 129 J J J J (Zf 130 J J J J ?_)))))
        refine Zf 131 J J J J (Zf 132 J J J J (Zf 133 J J J J (Zf 134 J J J J (Zm 135 J J (Zn J J J ⟨J, J⟩) ?_))))
        refine Zm 136 J J (Zd J J ⟨J, J⟩) ?_
        refine Zf 137 J J J J (Zf 138 J J J J (Zf 139 J J J J (Zf 140 J J J J (Zf 141 J J J J (Zf 142 J J J J ?_)))))
        refine Zf 143 J J J J (Zf 144 J J J J (Zf 145 J J J J (Zf 146 J J J J (Zf 147 J J J J (Zf 148 J J J J ?_)))))
        refine Zm 149 J J (Zn J J J ⟨J, J⟩) ?_
        refine Zm 150 J J (Zd J J ⟨J, J⟩) ?_
        refine Zf 151 J J J J (Zf 152 J J J J (Zf 153 J J J J (Zf 154 J J J J (Zm 155 J J (Zn J J J ⟨J, J⟩) ?_))))
        refine Zm 156 J J (Zd J J ⟨J, J⟩) ?_
        refine Zf 157 J J J J (Zf 158 J J J J (Zf 159 J J J J (Zf 160 J J J J (Zf 161 J J J J (Zf 162 J J J J ?_)))))
        refine Zf 163 J J J J (Zf 164 J J J J (Zf 165 J J J J (Zf 166 J J J J (Zf 167 J J J J (Zf 168 J J J J ?_)))))
        refine Zf 169 J J J J (Zf 170 J J J J (Zm 171 J J (Zn J J J ⟨J, J⟩) ?_))
        show BoolQ _ _ _ _ _ _
        refine Ua J ?_ by5 by3
        first | (simp_all; done) | (simp_all; omega) | grind
      ·skip
       refine Zf 117 J J J J (Zf 118 J J J J (Zf 119 J J J J (Zf 120 J J J J (Zf 121 J J J J (Zf 122 J J J J ?_)))))
       refine Zm 123 J J (Zn J J J ⟨J, J⟩) ?_
       refine Zm 124 J J (Zd J J ⟨J, J⟩) ?_
       refine Zf 125 J J J J (Zf 126 J J J J (Zf 127 J J J J (Zf 128 J J J J (Zf 129 J J J J (Zf 130 J J J J ?_)))))
       refine Zf 131 J J J J (Zf 132 J J J J (Zf 133 J J J J (Zf 134 J J J J (Zm 135 J J (Zn J J J ⟨J, J⟩) ?_))))
       refine Zm 136 J J (Zd J J ⟨J, J⟩) ?_
       refine Zf 137 J J J J (Zf 138 J J J J (Zf 139 J J J J (Zf 140 J J J J (Zf 141 J J J J (Zf 142 J J J J ?_)))))
       refine Zf 143 J J J J (Zf 144 J J J J (Zf 145 J J J J (Zf 146 J J J J (Zf 147 J J J J (Zf 148 J J J J ?_)))))
       refine Zm 149 J J (Zn J J J ⟨J, J⟩) ?_
       refine Zm 150 J J (Zd J J ⟨J, J⟩) ?_
       refine Zf 151 J J J J (Zf 152 J J J J (Zf 153 J J J J (Zf 154 J J J J (Zm 155 J J (Zn J J J ⟨J, J⟩) ?_))))
       refine Zm 156 J J (Zd J J ⟨J, J⟩) ?_
       refine Zf 157 J J J J (Zf 158 J J J J (Zf 159 J J J J (Zf 160 J J J J (Zf 161 J J J J (Zf 162 J J J J ?_)))))
       refine Zf 163 J J J J (Zf 164 J J J J (Zf 165 J J J J (Zf 166 J J J J (Zf 167 J J J J (Zf 168 J J J J ?_)))))
       refine Zf 169 J J J J (Zf 170 J J J J (Zm 171 J J (Zn J J J ⟨J, J⟩) ?_))
       show BoolQ _ _ _ _ _ _
       refine Ua J ?_ by5 by3
       first | (simp_all; done) | (simp_all; omega) | grind
     ·skip
      refine Zf 112 J J J J (Zf 113 J J J J (Zf 114 J J J J (Zm 115 J J (Zn J J J ⟨J, J⟩) ?_)))
      refine Zm 116 J J (Zd J J ⟨J, J⟩) ?_
      refine Zf 117 J J J J (Zf 118 J J J J (Zf 119 J J J J (Zf 120 J J J J (Zf 121 J J J J (Zf 122 J J J J ?_)))))
      refine Zm 123 J J (Zn J J J ⟨J, J⟩) ?_
      refine Zm 124 J J (Zd J J ⟨J, J⟩) ?_
      refine Zf 125 J J J J (Zf 126 J J J J (Zf 127 J J J J (Zf 128 J J J J (Zf 129 J J J J (Zf 130 J J J J ?_)))))
      refine Zf 131 J J J J (Zf 132 J J J J (Zf 133 J J J J (Zf 134 J J J J (Zm 135 J J (Zn J J J ⟨J, J⟩) ?_))))
      refine Zm 136 J J (Zd J J ⟨J, J⟩) ?_
      refine Zf 137 J J J J (Zf 138 J J J J (Zf 139 J J J J (Zf 140 J J J J (Zf 141 J J J J (Zf 142 J J J J ?_)))))
      refine Zf 143 J J J J (Zf 144 J J J J (Zf 145 J J J J (Zf 146 J J J J (Zf 147 J J J J (Zf 148 J J J J ?_)))))
      refine Zm 149 J J (Zn J J J ⟨J, J⟩) ?_
      refine Zm 150 J J (Zd J J ⟨J, J⟩) ?_
      refine Zf 151 J J J J (Zf 152 J J J J (Zf 153 J J J J (Zf 154 J J J J (Zm 155 J J (Zn J J J ⟨J, J⟩) ?_))))
      refine Zm 156 J J (Zd J J ⟨J, J⟩) ?_
      refine Zf 157 J J J J (Zf 158 J J J J (Zf 159 J J J J (Zf 160 J J J J (Zf 161 J J J J (Zf 162 J J J J ?_)))))
      refine Zf 163 J J J J (Zf 164 J J J J (Zf 165 J J J J (Zf 166 J J J J (Zf 167 J J J J (Zf 168 J J J J ?_)))))
      refine Zf 169 J J J J (Zf 170 J J J J (Zm 171 J J (Zn J J J ⟨J, J⟩) ?_))
      show BoolQ _ _ _ _ _ _
      refine Ua J ?_ by5 by3
      first | (simp_all; done) | (simp_all; omega) | grind
    intro c171 h171
    refine Zb ?_
    rcases Zi h171 with ⟨rfl, g171⟩ | ⟨rfl, g171⟩
    ·exact absurd hk g171
    ·exact Zt J (Zg (Zc (Za 8 J J J (Ze J J (Vp (Zb (Ya (Yh J J (Vw _) (Vr _) ⟨⟨false, by simp, J⟩, J⟩))))))))
  ·exact absurd g46 (by decide)
 ·exact absurd g14 (by decide)
set_option maxHeartbeats 4000000 in
set_option maxRecDepth 100000 in
theorem HoldsC_c (v : En) (gs : List Pr) (x : Pf) (q : Pr) (Q : Prop) (HX : BCall Tryz.prog 14 [.agg v.cells, .seq 5 (Pr.cellss gs), .agg x.cells, .agg q.cells] Q) : BCall Tryz.prog 42 ([] ++ [.agg x.cells, .agg q.cells] ++ [.cptr v.cells, .cptr [.seq 5 (Pr.cellss gs)]]) Q := by
 obtain ⟨qc, ⟨qk, qs, qn, ql⟩⟩ := q
 obtain ⟨da, cl, ins⟩ := v
 obtain ⟨xk, xn, xc, xl⟩ := x
 simp only [En.cells, Pf.cells, Pr.cells, Ty.cells, List.nil_append, List.cons_append] at *
 refine Zw Tryz.func42 J (by kernel_rfl) J (Uc J) ?_
 refine Ye (Zg (Zc (Za 4 J J J (Yu (cs' := [_, _, _, _]) J J J J (Za 5 J J J (Yu (cs' := [_, _, _, _, _]) J J J J (Za 6 J J J (Ze J J (Vp (Zb (Zg (Zc ?_))))))))))))
 refine Za 7 J J J (Yd (cs' := [_, _, _]) J Xy J J J (Za 8 J J J (Zp J ta_22 J J (Za 9 J J J (Yd (cs' := [_, _, _, _]) J Vk J J J (Za 10 J J J (Yd (cs' := [_, _, _, _, _]) J ta_27 J J J (Za 11 J J J (Yf (xs := [.tmp 7, .tmp 8, .tmp 9, .tmp 10]) J J (HX) by1 ?_))))))))); intro c11 h11
 exact Za 6 J J J (Ze J J (Vp (Zb (Ya (Yh J J (Vw _) by3 ⟨⟨_, h11, J⟩, J⟩)))))
set_option maxHeartbeats 4000000 in
set_option maxRecDepth 100000 in
theorem Holds3_go (v : En) (hv : EnG v) (gs : List Pr) (i : Nat) (y : In) (hy : v.ins[i]? = some y) (ks : List Pf) (p : Pr) (hk : fitsP y p) (hp : p.t.size ≤ 1000000) (HX : ∀ x ∈ ks, ∀ q ∈ needsR v i p.t, BCall Tryz.prog 14 [.agg v.cells, .seq 5 (Pr.cellss gs), .agg x.cells, .agg q.cells] (holdsP v gs x q)) : BCall Tryz.prog 14 [.agg v.cells, .seq 5 (Pr.cellss gs), .agg (Pf.mk 3 i kE ks).cells, .agg p.cells] (holdsL v gs ks (needsR v i p.t)) := by
 have HN := Needs_c v hv i p.t hp
 have HE := EqF_pf v gs 42 [.cptr v.cells, .cptr [.seq 5 (Pr.cellss gs)]] ks (needsR v i p.t) (fun x hx q hq => HoldsC_c v gs x q _ (HX x hx q hq))
 clear HX hv
 generalize holdsL v gs ks (needsR v i p.t) = Q at *
 generalize needsR v i p.t = l at *
 have hcy := In.cellss_get hy
 have hyl := get_lt hy
 obtain ⟨pc, ⟨pk, ps, pn, pl⟩⟩ := p
 obtain ⟨da, cl, ins⟩ := v
 have hil := In.cellss_len ins
 obtain ⟨yc, ⟨yk, ys, yn, yl⟩, ycx, ybs, yp⟩ := y
 have hl1 := Ty.cellss_len yl
 have hl2 := Ty.cellss_len pl
 unfold fitsP at hk
 simp only [En.cells, Pf.cells, Pr.cells, Ty.cells, In.cells, En.ins, In.c, In.hd, Pr.c, Pr.t, Ty.kind, Ty.name, Ty.kids, List.cons_append, List.nil_append] at *
 refine Zw Tryz.func14 J (by kernel_rfl) J (Uc J) ?_
 refine Ye (Zg (Zc (Za 4 J J J (Yu (cs' := [_, _, _]) J J J J (Za 5 J J J (Yu (cs' := [_]) J J J J (Za 6 J J J (Yu (cs' := [_, _, _, _]) J J J J (Za 7 J J J (Yu (cs' := [_, _, _, _, _]) J J J J ?_))))))))))
 refine Za 8 J J J (Ze J J (Vp (Zb (Zg (Zg (Zc (Za 11 J J J (Zj J tf_30_0 J J (Za 12 J J J (Zp J Xb J J (Vp (Zb (Zz (Zg (Zc (Za 14 J J J (Yr J J J ?_))))))))))))))))); intro c14 h14
 refine Za 13 J J J (Ze J J (Vp (Zb ?_)))
 rcases Zi h14 with ⟨rfl, g14⟩ | ⟨rfl, g14⟩
 ·refine Zr J (Zg (Zc (Za 46 J J J (Yr J J J ?_)))); intro c46 h46
  refine Za 45 J J J (Ze J J (Vp (Zb ?_)))
  rcases Zi h46 with ⟨rfl, g46⟩ | ⟨rfl, g46⟩
  ·refine Zr J (Zg (Zc (Za 107 J J J (Yr J J J ?_)))); intro c107 h107
   refine Za 106 J J J (Ze J J (Vp (Zb ?_)))
   rcases Zi h107 with ⟨rfl, g107⟩ | ⟨rfl, g107⟩
   ·exact absurd J g107
   ·refine Zt J (Zg (Zg (Vi 171 (False) Wr J ?_ _ _ J ?_)))
    ·skip
     refine Zm 108 J J (Zj J tf_30_2 J J ⟨J, J⟩) ?_
     refine Zm 109 J J (Zp J Yz J J ⟨J, J⟩) ?_
     refine Wb 110 J J (fun _ q => op_sneq J J J q) ?_; intro c110 h110
     refine Zm 111 J J (Zd J J ⟨J, J⟩) ?_
     rcases Zi h110 with ⟨rfl, g110⟩ | ⟨rfl, g110⟩
     ·skip
      refine Zu 112 J J J J (Zj J Ws J J ⟨J, J⟩) ?_
      refine Zu 113 J J J J (Zp J Xb J J ⟨J, J⟩) ?_
      refine Xi 114 J J J J (fun _ q => Yt J J J q) ?_; intro c114 h114
      refine Zm 115 J J (Zn J J J ⟨J, J⟩) ?_
      refine Zm 116 J J (Zd J J ⟨J, J⟩) ?_
      rcases Zi h114 with ⟨rfl, g114⟩ | ⟨rfl, g114⟩
      ·skip
       refine Zu 117 J J J J (Zj J Ws J J ⟨J, J⟩) ?_
       refine Zu 118 J J J J (Zp J Xb J J ⟨J, J⟩) ?_
       refine Zu 119 J J J J (Zj J Va J J ⟨J, J⟩) ?_
       refine Zu 120 J J J J (Zp J ta_36 J J ⟨J, J⟩) ?_
       refine Zu 121 J J J J (Yy J tu_36 J (.seq _ _) (fun _ => ⟨J, J⟩)) ?_
       refine Xi 122 J J J J (fun _ q => Wa J J J q) ?_; intro c122 h122
       refine Zm 123 J J (Zn J J J ⟨J, J⟩) ?_
       refine Zm 124 J J (Zd J J ⟨J, J⟩) ?_
       rcases Zi h122 with ⟨rfl, g122⟩ | ⟨rfl, g122⟩
       ·skip
        refine Zu 125 J J J J (Zj J Va J J ⟨J, J⟩) ?_
        refine Zu 126 J J J J (Zp J ta_36 J J ⟨J, J⟩) ?_
        refine Zu 127 J J J J (Zj J Ws J J ⟨J, J⟩) ?_
        refine Zu 128 J J J J (Zp J Xb J J ⟨J, J⟩) ?_
        refine Zu 129 J J J J (Yc J te_36 J (.seq _ _) J J (hcy) ⟨J, J⟩) ?_
        refine Zu 130 J J J J (Zj J tf_73_0 J J ⟨J, J⟩) ?_
        refine Zu 131 J J J J (Zp J Yz J J ⟨J, J⟩) ?_
        refine Zu 132 J J J J (Zj J Vd J J ⟨J, J⟩) ?_
        refine Zu 133 J J J J (Zp J Yz J J ⟨J, J⟩) ?_
        refine Xi 134 J J J J (fun _ q => op_sneq J J J q) ?_; intro c134 h134
        refine Zm 135 J J (Zn J J J ⟨J, J⟩) ?_
        refine Zm 136 J J (Zd J J ⟨J, J⟩) ?_
        rcases Zi h134 with ⟨rfl, g134⟩ | ⟨rfl, g134⟩
        ·skip
         refine Zu 137 J J J J (Zj J Va J J ⟨J, J⟩) ?_
         refine Zu 138 J J J J (Zp J ta_36 J J ⟨J, J⟩) ?_
         refine Zu 139 J J J J (Zj J Ws J J ⟨J, J⟩) ?_
         refine Zu 140 J J J J (Zp J Xb J J ⟨J, J⟩) ?_
         refine Zu 141 J J J J (Yc J te_36 J (.seq _ _) J J (hcy) ⟨J, J⟩) ?_
         refine Zu 142 J J J J (Zj J Vc J J ⟨J, J⟩) ?_
         refine Zu 143 J J J J (Zj J Wm J J ⟨J, J⟩) ?_
         refine Zu 144 J J J J (Zp J Yz J J ⟨J, J⟩) ?_
         refine Zu 145 J J J J (Zj J Wn J J ⟨J, J⟩) ?_
         refine Zu 146 J J J J (Zj J Wm J J ⟨J, J⟩) ?_
         refine Zu 147 J J J J (Zp J Yz J J ⟨J, J⟩) ?_
         refine Xi 148 J J J J (fun _ q => op_sneq J J J q) ?_; intro c148 h148
         refine Zm 149 J J (Zn J J J ⟨J, J⟩) ?_
         refine Zm 150 J J (Zd J J ⟨J, J⟩) ?_
         rcases Zi h148 with ⟨rfl, g148⟩ | ⟨rfl, g148⟩
         ·skip
          refine Zu 151 J J J J (Zj J Wn J J ⟨J, J⟩) ?_
          refine Zu 152 J J J J (Zj J tf_25_0 J J ⟨J, J⟩) ?_
          refine Zu 153 J J J J (Zp J Xb J J ⟨J, J⟩) ?_
          refine Xi 154 J J J J (fun _ q => Xq J J J q) ?_; intro c154 h154
          refine Zm 155 J J (Zn J J J ⟨J, J⟩) ?_
          refine Zm 156 J J (Zd J J ⟨J, J⟩) ?_
          rcases Zi h154 with ⟨rfl, g154⟩ | ⟨rfl, g154⟩
          ·skip
           refine Zu 157 J J J J (Zj J Wn J J ⟨J, J⟩) ?_
           refine Zu 158 J J J J (Zj J Wc J J ⟨J, J⟩) ?_
           refine Zu 159 J J J J (Zp J Ve J J ⟨J, J⟩) ?_
           refine Zu 160 J J J J (Yy J tu_23 J (.seq _ _) (fun _ => ⟨J, J⟩)) ?_
           refine Zu 161 J J J J (Zj J Va J J ⟨J, J⟩) ?_
           refine Zu 162 J J J J (Zp J ta_36 J J ⟨J, J⟩) ?_
           refine Zu 163 J J J J (Zj J Ws J J ⟨J, J⟩) ?_
           refine Zu 164 J J J J (Zp J Xb J J ⟨J, J⟩) ?_
           refine Zu 165 J J J J (Yc J te_36 J (.seq _ _) J J (hcy) ⟨J, J⟩) ?_
           refine Zu 166 J J J J (Zj J Vc J J ⟨J, J⟩) ?_
           refine Zu 167 J J J J (Zj J Wc J J ⟨J, J⟩) ?_
           refine Zu 168 J J J J (Zp J Ve J J ⟨J, J⟩) ?_
           refine Zu 169 J J J J (Yy J tu_23 J (.seq _ _) (fun _ => ⟨J, J⟩)) ?_
           refine Xi 170 J J J J (fun _ q => Xq J J J q) ?_; intro c170 h170
           refine Zm 171 J J (Zn J J J ⟨J, J⟩) ?_
           show BoolQ _ _ _ _ _ _
           refine Ua J ?_ by5 by3
           clear HN HE; first | (simp_all; done) | (simp_all; omega) | grind
          ·skip
           refine Zf 157 J J J J (Zf 158 J J J J (Zf 159 J J J J (Zf 160 J J J J (Zf 161 J J J J (Zf 162 J J J J ?_)))))
           refine Zf 163 J J J J (Zf 164 J J J J (Zf 165 J J J J (Zf 166 J J J J (Zf 167 J J J J (Zf 168 J J J J ?_)))))
           refine Zf 169 J J J J (Zf 170 J J J J (Zm 171 J J (Zn J J J ⟨J, J⟩) ?_))
           show BoolQ _ _ _ _ _ _
           refine Ua J ?_ by5 by3
           clear HN HE; first | (simp_all; done) | (simp_all; omega) | grind
         ·skip
          refine Zf 151 J J J J (Zf 152 J J J J (Zf 153 J J J J (Zf 154 J J J J (Zm 155 J J (Zn J J J ⟨J, J⟩) ?_))))
          refine Zm 156 J J (Zd J J ⟨J, J⟩) ?_
          refine Zf 157 J J J J (Zf 158 J J J J (Zf 159 J J J J (Zf 160 J J J J (Zf 161 J J J J (Zf 162 J J J J ?_)))))
          refine Zf 163 J J J J (Zf 164 J J J J (Zf 165 J J J J (Zf 166 J J J J (Zf 167 J J J J (Zf 168 J J J J ?_)))))
          refine Zf 169 J J J J (Zf 170 J J J J (Zm 171 J J (Zn J J J ⟨J, J⟩) ?_))
          show BoolQ _ _ _ _ _ _
          refine Ua J ?_ by5 by3
          clear HN HE; first | (simp_all; done) | (simp_all; omega) | grind
        ·skip
         refine Zf 137 J J J J (Zf 138 J J J J (Zf 139 J J J J (Zf 140 J J J J (Zf 141 J J J J (Zf 142 J J J J ?_)))))
         refine Zf 143 J J J J (Zf 144 J J J J (Zf 145 J J J J (Zf 146 J J J J (Zf 147 J J J J (Zf 148 J J J J ?_)))))
         refine Zm 149 J J (Zn J J J ⟨J, J⟩) ?_
         refine Zm 150 J J (Zd J J ⟨J, J⟩) ?_
         refine Zf 151 J J J J (Zf 152 J J J J (Zf 153 J J J J (Zf 154 J J J J (Zm 155 J J (Zn J J J ⟨J, J⟩) ?_))))
         refine Zm 156 J J (Zd J J ⟨J, J⟩) ?_
         refine Zf 157 J J J J (Zf 158 J J J J (Zf 159 J J J J (Zf 160 J J J J (Zf 161 J J J J (Zf 162 J J J J ?_)))))
         refine Zf 163 J J J J (Zf 164 J J J J (Zf 165 J J J J (Zf 166 J J J J (Zf 167 J J J J (Zf 168 J J J J ?_)))))
         refine Zf 169 J J J J (Zf 170 J J J J (Zm 171 J J (Zn J J J ⟨J, J⟩) ?_))
         show BoolQ _ _ _ _ _ _
         refine Ua J ?_ by5 by3
         clear HN HE; first | (simp_all; done) | (simp_all; omega) | grind
       ·skip
        refine Zf 125 J J J J (Zf 126 J J J J (Zf 127 J J J J (Zf 128 J J J J (Zf 129 J J J J (Zf 130 J J J J ?_)))))
        refine Zf 131 J J J J (Zf 132 J J J J (Zf 133 J J J J (Zf 134 J J J J (Zm 135 J J (Zn J J J ⟨J, J⟩) ?_))))
        refine Zm 136 J J (Zd J J ⟨J, J⟩) ?_
        refine Zf 137 J J J J (Zf 138 J J J J (Zf 139 J J J J (Zf 140 J J J J (Zf 141 J J J J (Zf 142 J J J J ?_)))))
        refine Zf 143 J J J J (Zf 144 J J J J (Zf 145 J J J J (Zf 146 J J J J (Zf 147 J J J J (Zf 148 J J J J ?_)))))
        refine Zm 149 J J (Zn J J J ⟨J, J⟩) ?_
        refine Zm 150 J J (Zd J J ⟨J, J⟩) ?_
        refine Zf 151 J J J J (Zf 152 J J J J (Zf 153 J J J J (Zf 154 J J J J (Zm 155 J J (Zn J J J ⟨J, J⟩) ?_))))
        refine Zm 156 J J (Zd J J ⟨J, J⟩) ?_
        refine Zf 157 J J J J (Zf 158 J J J J (Zf 159 J J J J (Zf 160 J J J J (Zf 161 J J J J (Zf 162 J J J J ?_)))))
        refine Zf 163 J J J J (Zf 164 J J J J (Zf 165 J J J J (Zf 166 J J J J (Zf 167 J J J J (Zf 168 J J J J ?_)))))
        refine Zf 169 J J J J (Zf 170 J J J J (Zm 171 J J (Zn J J J ⟨J, J⟩) ?_))
        show BoolQ _ _ _ _ _ _
        refine Ua J ?_ by5 by3
        clear HN HE; first | (simp_all; done) | (simp_all; omega) | grind
      ·skip
       refine Zf 117 J J J J (Zf 118 J J J J (Zf 119 J J J J (Zf 120 J J J J (Zf 121 J J J J (Zf 122 J J J J ?_)))))
       refine Zm 123 J J (Zn J J J ⟨J, J⟩) ?_
       refine Zm 124 J J (Zd J J ⟨J, J⟩) ?_
       refine Zf 125 J J J J (Zf 126 J J J J (Zf 127 J J J J (Zf 128 J J J J (Zf 129 J J J J (Zf 130 J J J J ?_)))))
       refine Zf 131 J J J J (Zf 132 J J J J (Zf 133 J J J J (Zf 134 J J J J (Zm 135 J J (Zn J J J ⟨J, J⟩) ?_))))
       refine Zm 136 J J (Zd J J ⟨J, J⟩) ?_
       refine Zf 137 J J J J (Zf 138 J J J J (Zf 139 J J J J (Zf 140 J J J J (Zf 141 J J J J (Zf 142 J J J J ?_)))))
       refine Zf 143 J J J J (Zf 144 J J J J (Zf 145 J J J J (Zf 146 J J J J (Zf 147 J J J J (Zf 148 J J J J ?_)))))
       refine Zm 149 J J (Zn J J J ⟨J, J⟩) ?_
       refine Zm 150 J J (Zd J J ⟨J, J⟩) ?_
       refine Zf 151 J J J J (Zf 152 J J J J (Zf 153 J J J J (Zf 154 J J J J (Zm 155 J J (Zn J J J ⟨J, J⟩) ?_))))
       refine Zm 156 J J (Zd J J ⟨J, J⟩) ?_
       refine Zf 157 J J J J (Zf 158 J J J J (Zf 159 J J J J (Zf 160 J J J J (Zf 161 J J J J (Zf 162 J J J J ?_)))))
       refine Zf 163 J J J J (Zf 164 J J J J (Zf 165 J J J J (Zf 166 J J J J (Zf 167 J J J J (Zf 168 J J J J ?_)))))
       refine Zf 169 J J J J (Zf 170 J J J J (Zm 171 J J (Zn J J J ⟨J, J⟩) ?_))
       show BoolQ _ _ _ _ _ _
       refine Ua J ?_ by5 by3
       clear HN HE; first | (simp_all; done) | (simp_all; omega) | grind
     ·skip
      refine Zf 112 J J J J (Zf 113 J J J J (Zf 114 J J J J (Zm 115 J J (Zn J J J ⟨J, J⟩) ?_)))
      refine Zm 116 J J (Zd J J ⟨J, J⟩) ?_
      refine Zf 117 J J J J (Zf 118 J J J J (Zf 119 J J J J (Zf 120 J J J J (Zf 121 J J J J (Zf 122 J J J J ?_)))))
      refine Zm 123 J J (Zn J J J ⟨J, J⟩) ?_
      refine Zm 124 J J (Zd J J ⟨J, J⟩) ?_
      refine Zf 125 J J J J (Zf 126 J J J J (Zf 127 J J J J (Zf 128 J J J J (Zf 129 J J J J (Zf 130 J J J J ?_)))))
      refine Zf 131 J J J J (Zf 132 J J J J (Zf 133 J J J J (Zf 134 J J J J (Zm 135 J J (Zn J J J ⟨J, J⟩) ?_))))
      refine Zm 136 J J (Zd J J ⟨J, J⟩) ?_
      refine Zf 137 J J J J (Zf 138 J J J J (Zf 139 J J J J (Zf 140 J J J J (Zf 141 J J J J (Zf 142 J J J J ?_)))))
      refine Zf 143 J J J J (Zf 144 J J J J (Zf 145 J J J J (Zf 146 J J J J (Zf 147 J J J J (Zf 148 J J J J ?_)))))
      refine Zm 149 J J (Zn J J J ⟨J, J⟩) ?_
      refine Zm 150 J J (Zd J J ⟨J, J⟩) ?_
      refine Zf 151 J J J J (Zf 152 J J J J (Zf 153 J J J J (Zf 154 J J J J (Zm 155 J J (Zn J J J ⟨J, J⟩) ?_))))
      refine Zm 156 J J (Zd J J ⟨J, J⟩) ?_
      refine Zf 157 J J J J (Zf 158 J J J J (Zf 159 J J J J (Zf 160 J J J J (Zf 161 J J J J (Zf 162 J J J J ?_)))))
      refine Zf 163 J J J J (Zf 164 J J J J (Zf 165 J J J J (Zf 166 J J J J (Zf 167 J J J J (Zf 168 J J J J ?_)))))
      refine Zf 169 J J J J (Zf 170 J J J J (Zm 171 J J (Zn J J J ⟨J, J⟩) ?_))
      show BoolQ _ _ _ _ _ _
      refine Ua J ?_ by5 by3
      clear HN HE; first | (simp_all; done) | (simp_all; omega) | grind
    intro c171 h171
    refine Zb ?_
    rcases Zi h171 with ⟨rfl, g171⟩ | ⟨rfl, g171⟩
    ·refine Zr J (Zv (Zb (Zg (c_drawn Wr J (Zm 172 J J (Zj J tf_30_3 J J ⟨J, J⟩) ?_)))))
     refine Zm 173 J J (Zp J ta_28 J J ⟨J, J⟩) ?_
     refine Zm 174 J J (Yd (cs' := [_, _, _]) J Xy J J J ⟨J, J⟩) ?_
     refine Zm 175 J J (Zj J Ws J J ⟨J, J⟩) ?_
     refine Zm 176 J J (Zp J Xb J J ⟨J, J⟩) ?_
     refine Zm 177 J J (Zj J Wn J J ⟨J, J⟩) ?_
     refine Zm 178 J J (Yd (cs' := [_, _, _, _]) J Xx J J J ⟨J, J⟩) ?_
     refine Zm 179 J J (Yp (xs := [.tmp 174, .tmp 176, .tmp 178]) J J (HN) by1 ⟨J, J⟩) ?_
     refine Zm 180 J J (op_makeFunc (fs := []) (cs := [.tmp 4, .tmp 5]) J J J ⟨J, J⟩) ?_
     refine Wb 181 J J (fun _ q => Yf (xs := [.tmp 173, .tmp 179, .tmp 180]) J J (HE) by1 q) ?_; intro c181 h181
     refine Zm 8 J J (Ze J J ⟨J, J⟩) ?_
     show AGo _ _ _ _ _ _ _
     exact Zb (Ya (Yh J J (Vw _) (Vr _) ⟨⟨_, h181, J⟩, J⟩))
    ·exact False.elim g171
  ·exact absurd g46 (by decide)
 ·exact absurd g14 (by decide)
set_option maxHeartbeats 4000000 in
set_option maxRecDepth 100000 in
theorem Holds0_c (v : En) (gs : List Pr) (k n : Int) (c : ByteArray) (ks : List Pf) (p : Pr) (h1 : k ≠ 1) (h2 : k ≠ 2) (h3 : k ≠ 3) : BCall Tryz.prog 14 [.agg v.cells, .seq 5 (Pr.cellss gs), .agg (Pf.mk k n c ks).cells, .agg p.cells] False := by
 obtain ⟨pc, ⟨pk, ps, pn, pl⟩⟩ := p
 obtain ⟨da, cl, ins⟩ := v
 simp only [En.cells, Pf.cells, Pr.cells, Ty.cells] at *
 refine Zw Tryz.func14 J (by kernel_rfl) J (Uc J) ?_
 refine Ye (Zg (Zc (Za 4 J J J (Yu (cs' := [_, _, _]) J J J J (Za 5 J J J (Yu (cs' := [_]) J J J J (Za 6 J J J (Yu (cs' := [_, _, _, _]) J J J J (Za 7 J J J (Yu (cs' := [_, _, _, _, _]) J J J J ?_))))))))))
 refine Za 8 J J J (Ze J J (Vp (Zb (Zg (Zg (Zc (Za 11 J J J (Zj J tf_30_0 J J (Za 12 J J J (Zp J Xb J J (Vp (Zb (Zz (Zg (Zc (Za 14 J J J (Yr J J J ?_))))))))))))))))); intro c14 h14
 refine Za 13 J J J (Ze J J (Vp (Zb ?_)))
 rcases Zi h14 with ⟨rfl, g14⟩ | ⟨rfl, g14⟩
 ·refine Zr J (Zg (Zc (Za 46 J J J (Yr J J J ?_)))); intro c46 h46
  refine Za 45 J J J (Ze J J (Vp (Zb ?_)))
  rcases Zi h46 with ⟨rfl, g46⟩ | ⟨rfl, g46⟩
  ·refine Zr J (Zg (Zc (Za 107 J J J (Yr J J J ?_)))); intro c107 h107
   refine Za 106 J J J (Ze J J (Vp (Zb ?_)))
   rcases Zi h107 with ⟨rfl, g107⟩ | ⟨rfl, g107⟩
   ·refine Zr J (Zv (Yv (Zb (Zg (Zc (Za 8 J J J (Ze J J (Vp (Zb (Ya ?_))))))))))
    exact Yh J J (Vw _) (Vr _) ⟨⟨false, by simp, J⟩, J⟩
   ·exact absurd g107 h3
  ·exact absurd g46 h2
 ·exact absurd g14 h1
theorem Holds_c (v : En) (hv : EnC v) (gs : List Pr) : ∀ (d : Nat) (x : Pf), x.size ≤ d → ∀ p : Pr, p.t.size ≤ 1000000 → BCall Tryz.prog 14 [.agg v.cells, .seq 5 (Pr.cellss gs), .agg x.cells, .agg p.cells] (holdsP v gs x p)
 | 0, x, h, _, _ => by cases x; simp [Pf.size] at h
 | d + 1, .mk k n c ks, h, p, hp => by
  rw [Pf.size] at h
  have IH : ∀ x ∈ ks, ∀ p : Pr, p.t.size ≤ 1000000 → _ := fun x hx p hp => Holds_c v hv gs d x (by have := Pf.size_mem hx; omega) p hp
  by_cases h1 : k = 1
  ·subst h1
   by_cases hn : n < 0 ∨ gs.length ≤ n
   ·refine bsame (Holds1_out v gs n hn c ks p) ?_
    rw [holds_1]
    refine ⟨False.elim, fun q => ?_⟩
    have := get_lt q.2.2.2
    omega
   ·obtain ⟨i, rfl⟩ : ∃ i : Nat, n = i := ⟨n.toNat, by omega⟩
    obtain ⟨g, hg⟩ := Yx (l := gs) (i := i) (by omega)
    refine bsame (Holds1_in v gs i g hg c ks p) ?_
    rw [holds_1, show ((i : Int)).toNat = i by omega, hg]
    simp
  by_cases h2 : k = 2
  ·subst h2
   by_cases hc : 0 ≤ classI v c
   ·obtain ⟨j, z, hj, hz, hs⟩ := classI_hit hc
    by_cases hn : n < 0 ∨ z.su.length ≤ n
    ·refine bsame (Holds2_out v gs n c j z hj hz hn ks p) ?_
     rw [holds_2, hs]
     refine ⟨False.elim, fun q => ?_⟩
     have := get_lt q.2.2.1
     omega
    ·obtain ⟨i, rfl⟩ : ∃ i : Nat, n = i := ⟨n.toNat, by omega⟩
     obtain ⟨s, hsi⟩ := Yx (l := z.su) (i := i) (by omega)
     by_cases hk : ks.length = 1 ∧ s = p.c
     ·obtain ⟨hk1, hk2⟩ := hk
      obtain ⟨x, rfl⟩ := List.length_eq_one_iff.1 hk1
      subst hk2
      refine bsame (Holds2_go v gs i c j z hj hz x p hsi _ (IH x (by simp) (.mk c p.t) hp)) ?_
      rw [holds_2, hs, show ((i : Int)).toNat = i by omega, hsi, holdsL_one]
      exact ⟨fun q => ⟨hc, by omega, rfl, x, rfl, q⟩, fun ⟨_, _, _, y, he, hq⟩ => by cases he; exact hq⟩
     ·refine bsame (Holds2_in v gs i c j z hj hz s hsi ks p hk) ?_
      rw [holds_2, hs, show ((i : Int)).toNat = i by omega, hsi]
      refine ⟨False.elim, fun q => hk ⟨by have := holdsL_len q.2.2.2; simpa using this, by simpa using q.2.2.1⟩⟩
   ·refine bsame (Holds2_no v gs n c hc ks p) ?_
    rw [holds_2]
    exact ⟨False.elim, fun q => hc q.1⟩
  by_cases h3 : k = 3
  ·subst h3
   by_cases hn : n < 0 ∨ v.ins.length ≤ n
   ·refine bsame (Holds3_out v gs n c hn ks p) ?_
    rw [holds_3]
    refine ⟨False.elim, fun ⟨_, _, ⟨y, hy, _⟩, _⟩ => ?_⟩
    have := get_lt hy
    omega
   ·obtain ⟨i, rfl⟩ : ∃ i : Nat, n = i := ⟨n.toNat, by omega⟩
    obtain ⟨y, hy⟩ := Yx (l := v.ins) (i := i) (by omega)
    by_cases hk : c = kE ∧ fitsP y p
    ·obtain ⟨rfl, hf⟩ := hk
     refine bsame (Holds3_go v hv.g gs i y hy ks p hf hp (fun x hx q hq => IH x hx q (by have := hv.needs_size hq; omega))) ?_
     rw [holds_3, show ((i : Int)).toNat = i by omega, hy]
     exact ⟨fun q => ⟨J, by omega, ⟨y, J, hf⟩, q⟩, fun q => q.2.2.2⟩
    ·refine bsame (Holds3_no v gs i c y hy ks p hk) ?_
     rw [holds_3, show ((i : Int)).toNat = i by omega, hy]
     refine ⟨False.elim, fun ⟨hc, _, ⟨y', he, hf⟩, _⟩ => ?_⟩
     cases he
     exact hk ⟨hc, hf⟩
  exact bsame (Holds0_c v gs k n c ks p h1 h2 h3) ⟨False.elim, holds_0 h1 h2 h3⟩
theorem fits_iff {v : En} (hv : EnC v) {p : Pr} {i : Nat} {y : In} (hy : v.ins[i]? = some y) : (y.c = p.c ∧ p.t.kind = 3 ∧ y.hd.name = p.t.name ∧ y.hd.kids.length = p.t.kids.length) ↔ (fitsR v p = true ∧ instI v p.c p.t.name = i) := by
 unfold fitsR
 rw [decide_eq_true_eq]
 constructor
 ·rintro ⟨h1, h2, h3, h4⟩
  have := hv.un i y hy
  rw [h1, h3] at this
  rw [this, show ((i : Int)).toNat = i by omega, hy]
  exact ⟨⟨by omega, h2, by simp [h4]⟩, J⟩
 ·rintro ⟨⟨h1, h2, h3⟩, h4⟩
  obtain ⟨z, hz, k1, k2⟩ := instI_hit h1
  rw [h4, show ((i : Int)).toNat = i by omega, hy] at hz
  cases hz
  rw [h4, show ((i : Int)).toNat = i by omega, hy] at h3
  simp at h3
  exact ⟨k1, h2, k2, h3.symm⟩
end Go.Proofs.YtknodnfbaofngaaGreat
namespace Go.Proofs.YtknodnfbaofngaaGreat
theorem climbF_holds {v : En} (hv : EnC v) {gs : List Pr} {to : ByteArray} {t : Ty} : ∀ (n : Nat) (c : ByteArray) (x : Pf), high v c < n → (c = to ∨ to ∈ aboveR v c) → holdsP v gs x (.mk c t) → holdsP v gs (climbF v to n c x) (.mk to t)
 | 0, c, x, h, _, _ => by omega
 | n + 1, c, x, h, hup, hx => by
  by_cases hne : c = to
  ·subst hne; rw [climbF_end]; exact hx
  obtain ⟨s, hu0, hc0, hsu, hed, hs⟩ := up_at (hup.resolve_left hne)
  have hlt := hv.high_lt hed
  rw [climbF_go n x hne hsu]
  refine climbF_holds hv n s _ (by omega) hs ?_
  rw [holds_2]
  exact ⟨hc0, hu0, hsu, by rw [holdsL_one]; exact ⟨x, J, hx⟩⟩
theorem givI_hit {gs : List Pr} {p : Pr} (h : 0 ≤ givI gs p) : gs[(givI gs p).toNat]? = some p := by
 obtain ⟨y, h1, h2, _⟩ := findI_get (fun g => prB g p) gs 0 h
 have h1 : gs[(givI gs p).toNat]? = some y := h1
 rw [h1, prB_iff.1 h2]
theorem givI_mem {gs : List Pr} {p : Pr} (h : p ∈ gs) : 0 ≤ givI gs p := by
 obtain ⟨i, hi⟩ := List.mem_iff_getElem?.1 h
 exact (findI_min (fun g => prB g p) gs 0 i p hi (prB_iff.2 J)).2
theorem givI_iff {gs : List Pr} {p : Pr} : 0 ≤ givI gs p ↔ p ∈ gs := ⟨fun h => Uh (givI_hit h), givI_mem⟩
theorem supI_iff {v : En} {gs : List Pr} {p : Pr} : 0 ≤ supI v gs p ↔ ∃ g ∈ gs, g.t = p.t ∧ p.c ∈ aboveR v g.c := by
 constructor
 ·intro h
  obtain ⟨y, h1, h2, _⟩ := findI_get (fun (g : Pr) => g.t.eqb p.t && hasB (aboveR v g.c) p.c) gs 0 h
  simp only [Bool.and_eq_true, Ty.eqb_iff, hasB_iff] at h2
  exact ⟨y, Uh h1, h2⟩
 ·rintro ⟨g, hg, h⟩
  obtain ⟨i, hi⟩ := List.mem_iff_getElem?.1 hg
  exact (findI_min (fun (g : Pr) => g.t.eqb p.t && hasB (aboveR v g.c) p.c) gs 0 i g hi (by simp only [Bool.and_eq_true, Ty.eqb_iff, hasB_iff]; exact h)).2
theorem supP_yes {v : En} {gs : List Pr} {p : Pr} (h : 0 ≤ supI v gs p) : ∃ g, gs[(supI v gs p).toNat]? = some g ∧ g.t = p.t ∧ p.c ∈ aboveR v g.c ∧ supP v gs p = (upF v g.c p.c (.mk 1 (supI v gs p) kE []), true) := by
 obtain ⟨y, h1, h2, _⟩ := findI_get (fun (g : Pr) => g.t.eqb p.t && hasB (aboveR v g.c) p.c) gs 0 h
 simp only [Bool.and_eq_true, Ty.eqb_iff, hasB_iff] at h2
 have h1 : gs[(supI v gs p).toNat]? = some y := h1
 refine ⟨y, h1, h2.1, h2.2, ?_⟩
 have := supP_hit (v := v) (gs := gs) (p := p) (g := y) (i := (supI v gs p).toNat) (by omega) h1
 rw [this, show (((supI v gs p).toNat : Nat) : Int) = supI v gs p by omega]
theorem supP_iff {v : En} {gs : List Pr} {p : Pr} : (supP v gs p).2 = true ↔ 0 ≤ supI v gs p := by
 by_cases h : 0 ≤ supI v gs p
 ·obtain ⟨g, _, _, _, e⟩ := supP_yes h
  rw [e]; simp [h]
 ·rw [supP_no (by omega)]; simp [h]
theorem prove_iff {v : En} {gs : List Pr} {n : Nat} {p : Pr} : (proveF v gs (n + 1) p).2 = true ↔ (p ∈ gs ∨ (fitsR v p = true ∧ ∀ q ∈ needsR v (instI v p.c p.t.name) p.t, (proveF v gs n q).2 = true) ∨ ∃ g ∈ gs, g.t = p.t ∧ p.c ∈ aboveR v g.c) := by
 rw [← givI_iff, ← supI_iff, ← supP_iff, ← List.all_eq_true, proveF]
 by_cases h1 : 0 ≤ givI gs p
 ·rw [if_pos h1]; simp [h1]
 rw [if_neg h1]
 by_cases h2 : fitsR v p = true ∧ ((needsR v (instI v p.c p.t.name) p.t).all fun q => (proveF v gs n q).2) = true
 ·rw [if_pos h2]; exact ⟨fun _ => .inr (.inl h2), fun _ => rfl⟩
 rw [if_neg h2]
 exact ⟨fun h => .inr (.inr h), fun h => (h.resolve_left h1).resolve_left h2⟩
theorem prove_more {v : En} {gs ms : List Pr} : ∀ (n : Nat) (p : Pr), (proveF v gs n p).2 = true → (proveF v (gs ++ ms) n p).2 = true
 | 0, p, h => by rw [proveF] at h; simp at h
 | n + 1, p, h => by
  rw [prove_iff] at h ⊢
  rcases h with h | ⟨h1, h2⟩ | ⟨g, hg, h⟩
  ·exact .inl (List.mem_append_left _ h)
  ·exact .inr (.inl ⟨h1, fun q hq => prove_more n q (h2 q hq)⟩)
  ·exact .inr (.inr ⟨g, List.mem_append_left _ hg, h⟩)
theorem holdsL_map {v : En} {gs : List Pr} {f : Pr → Pf} : ∀ {l : List Pr}, (∀ q ∈ l, holdsP v gs (f q) q) → holdsL v gs (l.map f) l
 | [], _ => by rw [List.map_nil, holdsL]; trivial
 | q :: l, h => by
  rw [List.map_cons, holdsL]
  exact ⟨h q (by simp), holdsL_map fun q hq => h q (by simp [hq])⟩
theorem prove_holds {v : En} (hv : EnC v) {gs : List Pr} : ∀ (n : Nat) (p : Pr), (proveF v gs n p).2 = true → holdsP v gs (proveF v gs n p).1 p
 | 0, p, h => by rw [proveF] at h; simp at h
 | n + 1, p, h => by
  rw [proveF] at h ⊢
  by_cases h1 : 0 ≤ givI gs p
  ·rw [if_pos h1, holds_1]
   exact ⟨J, J, h1, givI_hit h1⟩
  rw [if_neg h1] at h ⊢
  by_cases h2 : fitsR v p = true ∧ ((needsR v (instI v p.c p.t.name) p.t).all fun q => (proveF v gs n q).2) = true
  ·rw [if_pos h2, holds_3]
   obtain ⟨h2, h3⟩ := h2
   rw [List.all_eq_true] at h3
   have h0 : 0 ≤ instI v p.c p.t.name := by unfold fitsR at h2; exact (of_decide_eq_true h2).1
   obtain ⟨z, hz, _⟩ := instI_hit h0
   refine ⟨J, h0, ⟨z, hz, ?_⟩, holdsL_map fun q hq => prove_holds hv n q (h3 q hq)⟩
   exact (fits_iff hv (i := (instI v p.c p.t.name).toNat) hz).2 ⟨h2, by omega⟩
  ·rw [if_neg h2] at h ⊢
   obtain ⟨g, h3, h4, h5, h6⟩ := supP_yes (supP_iff.1 h)
   have h0 := supP_iff.1 h
   rw [h6]
   show holdsP v gs (upF v g.c p.c _) p
   have hg : holdsP v gs (.mk 1 (supI v gs p) kE []) (.mk g.c p.t) := by
    rw [holds_1]
    exact ⟨J, J, h0, by rw [h3, ← h4]; cases g; rfl⟩
   have := climbF_holds hv _ g.c _ (Nat.lt_succ_self _) (.inr h5) hg
   cases p
   exact this
def srcB : ByteArray := ⟨#[100, 97, 116, 97, 32, 76, 105, 115, 116, 32, 97, 32, 61, 32, 78, 105, 108, 32, 124, 32, 67, 111, 110, 115, 32, 97, 32, 40, 76, 105, 115, 116, 32, 97, 41, 59, 32, 99, 108, 97, 115, 115, 32, 69, 113, 32, 97, 32, 119, 104, 101, 114, 101, 32, 101, 110, 100, 59, 32, 99, 108, 97, 115, 115, 32, 79, 114, 100, 32, 97, 32, 102, 114, 111, 109, 32, 69, 113, 32, 119, 104, 101, 114, 101, 32, 101, 110, 100, 59, 32, 105, 110, 115, 116, 97, 110, 99, 101, 32, 69, 113, 32, 73, 110, 116, 32, 119, 104, 101, 114, 101, 32, 101, 110, 100, 59, 32, 105, 110, 115, 116, 97, 110, 99, 101, 32, 69, 113, 32, 40, 76, 105, 115, 116, 32, 97, 41, 32, 102, 114, 111, 109, 32, 69, 113, 32, 97, 32, 119, 104, 101, 114, 101, 32, 101, 110, 100, 59, 32, 105, 110, 115, 116, 97, 110, 99, 101, 32, 79, 114, 100, 32, 40, 76, 105, 115, 116, 32, 97, 41, 32, 102, 114, 111, 109, 32, 79, 114, 100, 32, 97, 32, 119, 104, 101, 114, 101, 32, 101, 110, 100, 59]⟩
open Go.RowKit
def tyv (s : ByteArray) : Ty := .mk 1 s 0 []
def tyc (s : ByteArray) (l : List Ty) : Ty := .mk 3 s 0 l
abbrev sList : ByteArray := ⟨#[76, 105, 115, 116]⟩
abbrev sNil : ByteArray := ⟨#[78, 105, 108]⟩
abbrev sCons : ByteArray := ⟨#[67, 111, 110, 115]⟩
abbrev sa : ByteArray := ⟨#[97]⟩
abbrev sEq : ByteArray := ⟨#[69, 113]⟩
abbrev sOrd : ByteArray := ⟨#[79, 114, 100]⟩
abbrev sInt : ByteArray := ⟨#[73, 110, 116]⟩
def srcPg : Pg := .mk
 [.mk sList [sa] [.mk sNil [] 14, .mk sCons [tyv sa, tyc sList [tyv sa]] 20] [] 5]
 [.mk sEq sa [] [] [] 43, .mk sOrd sa [sEq] [] [] 65]
 [.mk sEq (tyc sInt []) [] [] 99, .mk sEq (tyc sList [tyv sa]) [.mk sEq (tyv sa)] [] 126, .mk sOrd (tyc sList [tyv sa]) [.mk sOrd (tyv sa)] [] 168] []
set_option maxRecDepth 100000 in
theorem src_pg : progT srcB = (srcPg, 0, 0) := by kernel_rfl
set_option maxRecDepth 100000 in
theorem src_check : checkR srcPg = (0, 0) := by kernel_rfl
section
variable {P : Program} {l : List Oper} {ws : List Nat} {anc : List (List Nat)} {QQ : Sl → Mem → Prop} {ord : List Nat} {al : Sl} {M : Mem} {L : List (Nat × Nat)} {o : Oper}
theorem EOps.dg {v : AV} {i j : Nat} {b : Bool} {t : Tmp} (d : Nat) (fp : Option Nat) (hi : l[i]? = some o) (hw : ws.contains i = false) (hg : o.guard = some (j, b)) (hj : (l[j]?).bind (·.dst) = some t) (hc : al.lookup t = some (.val (.bool b))) (hd : o.dst = some d) (hfp : fp.all (fun k => Nat.blt k M.length) = true) (h : OpT P { o with guard := none } (al.only (Oper.tmps o)) (fpm M fp) (fun v' M' => v' = v ∧ M' = fpm M fp)) (q : EOps P l ws anc QQ ord ((d, v) :: al) M ((fp.toList.map fun k => (i, k)) ++ L)) : EOps P l ws anc QQ (i :: ord) al M L :=
 ⟨o, hi, by rw [if_neg (by rw [hw]; simp)]; exact ⟨fp, v, hfp, by unfold DStep; rw [hg]; exact ⟨t, hj, .inl ⟨hc, h⟩⟩, by rw [hd]; exact q⟩⟩
theorem EOps.cmg {i j : Nat} {b : Bool} {t : Tmp} {p : Prop} (d : Nat) (hi : l[i]? = some o) (hw : ws.contains i = false) (hg : o.guard = some (j, b)) (hj : (l[j]?).bind (·.dst) = some t) (hc : al.lookup t = some (.val (.bool b))) (hd : o.dst = some d) (h : ∀ K : AV → Mem → Prop, (∀ c : Bool, (c = true ↔ p) → K (.val (.bool c)) []) → OpT P { o with guard := none } (al.only (Oper.tmps o)) [] K) (q : ∀ c : Bool, (c = true ↔ p) → EOps P l ws anc QQ ord ((d, .val (.bool c)) :: al) M L) : EOps P l ws anc QQ (i :: ord) al M L := by
 have : ∃ c : Bool, c = true ↔ p := by
  by_cases hp : p
  ·exact ⟨true, by simp [hp]⟩
  ·exact ⟨false, by simp [hp]⟩
 obtain ⟨c, hq⟩ := this
 refine EOps.dg d none hi hw hg hj hc hd J (h _ (fun c' hc' => ⟨?_, J⟩)) (q c hq)
 have : c' = c := by cases c <;> cases c' <;> simp_all
 rw [this]
theorem EOps.df {i j : Nat} {b : Bool} {t : Tmp} (d : Nat) (hi : l[i]? = some o) (hw : ws.contains i = false) (hg : o.guard = some (j, b)) (hj : (l[j]?).bind (·.dst) = some t) (hc : al.lookup t = some (.val (.bool !b))) (hd : o.dst = some d) (q : EOps P l ws anc QQ ord ((d, .val undef) :: al) M L) : EOps P l ws anc QQ (i :: ord) al M L :=
 ⟨o, hi, by rw [if_neg (by rw [hw]; simp)]; exact ⟨none, .val undef, rfl, by unfold DStep; rw [hg]; exact ⟨t, hj, .inr ⟨.inl hc, rfl⟩⟩, by rw [hd]; exact q⟩⟩
end
def psC (L : List Tok) (p : PS) : List AV := [.seq 4 (L.map Tok.av), .val (.int .i64 p.at_), .val (.int .i64 p.lv), .val (.int .i64 p.e), .val (.int .i64 p.wh)]
set_option maxHeartbeats 4000000 in
set_option maxRecDepth 100000 in
theorem next_c (b : Nat) (L : List Tok) (p : PS) : KCall Tryz.prog 50 [.ptr b 0] [.loc b (psC L p)] (.agg (nxt L p).av) := by
 obtain ⟨a, lv, e, wh⟩ := p
 have hl : (L.map Tok.av).length = L.length := List.length_map _
 simp only [psC]
 refine Zw Tryz.func50 J (by kernel_rfl) J (Uc J) ?_
 refine Ye (Zg (Zc (Za 2 J J J (Zy (cs' := [_, _, _, _]) J Wf J J ?_)))); intro b2
 refine Vp (Zb (Zg (Zg (Vi 19 (e ≠ 0 ∨ L.length ≤ a) Wr J ?_ _ _ J ?_))))
 ·skip
  refine Zm 3 J J (Zd J J ⟨J, J⟩) ?_
  refine Zm 4 J J (Yj J J ⟨J, J⟩) ?_
  refine Zm 5 J J (Zh J Vl J ⟨J, J⟩) ?_
  refine Zm 6 J J (Zq (i := 1) J Xb J J J ⟨J, J⟩) ?_
  refine Wb 7 J J (fun _ q => Xq J J J q) ?_; intro c7 h7
  refine Zm 8 J J (Zd J J ⟨J, J⟩) ?_
  rcases Zi h7 with ⟨rfl, g7⟩ | ⟨rfl, g7⟩
  ·skip
   refine Zu 9 J J J J (Zd J J ⟨J, J⟩) ?_
   refine Zu 10 J J J J (Yj J J ⟨J, J⟩) ?_
   refine Zu 11 J J J J (Zh J tf_95_1 J ⟨J, J⟩) ?_
   refine Zu 12 J J J J (Zq (i := 1) J Xb J J J ⟨J, J⟩) ?_
   refine Zu 13 J J J J (Zd J J ⟨J, J⟩) ?_
   refine Zu 14 J J J J (Yj J J ⟨J, J⟩) ?_
   refine Zu 15 J J J J (Zh J tf_95_0 J ⟨J, J⟩) ?_
   refine Zu 16 J J J J (Zq (i := 1) J ta_93 J J J ⟨J, J⟩) ?_
   refine Zu 17 J J J J (Yy J tu_93 J (.seq _ _) (fun _ => ⟨J, J⟩)) ?_
   refine Xi 18 J J J J (fun _ q => Wa J J J q) ?_; intro c18 h18
   refine Zm 19 J J (Zn J J J ⟨J, J⟩) ?_
   show BoolQ _ _ _ _ _ _
   refine Ua J ?_ by5 by3
   simp_all; done
  ·skip
   refine Zf 9 J J J J (Zf 10 J J J J (Zf 11 J J J J (Zf 12 J J J J (Zf 13 J J J J (Zf 14 J J J J ?_)))))
   refine Zf 15 J J J J (Zf 16 J J J J (Zf 17 J J J J (Zf 18 J J J J (Zm 19 J J (Zn J J J ⟨J, J⟩) ?_))))
   show BoolQ _ _ _ _ _ _
   refine Ua J ?_ by5 by3
   simp_all; done
 intro c19 h19
 refine Zb ?_
 rcases Zi h19 with ⟨rfl, g19⟩ | ⟨rfl, g19⟩
 ·refine Zr J (Zv (Zb (Zg ?_)))
  obtain ⟨t, ht⟩ := Yx (l := L) (i := a) (by omega)
  have htc : (L.map Tok.av)[a]? = some t.av := by rw [List.getElem?_map, ht]; rfl
  refine Xw [0, 1, 2, 3, 4, 5, 6, 7, 8, 9, 10] [10] [[], [0], [0, 1], [0, 1, 2], [], [4], [4, 5], [4, 5, 6], [0, 1, 2, 3, 4, 5, 6, 7], [0, 1, 2, 3, 4, 5, 6, 7, 8], [0, 1, 2, 3, 4, 5, 6, 7, 8, 9]] Wr J (Yb 21 (none) (i := 0) J J J J J (Zd J J ⟨J, J⟩) ?_)
  refine Yb 22 (none) (i := 1) J J J J J (Yj J J ⟨J, J⟩) ?_
  refine Yb 23 (none) (i := 2) J J J J J (Zh J tf_95_0 J ⟨J, J⟩) ?_
  refine Yb 24 (some 1) (i := 3) J J J J J (Zq (i := 0) J ta_93 J J J ⟨J, J⟩) ?_
  refine Yb 25 (none) (i := 4) J J J J J (Zd J J ⟨J, J⟩) ?_
  refine Yb 26 (none) (i := 5) J J J J J (Yj J J ⟨J, J⟩) ?_
  refine Yb 27 (none) (i := 6) J J J J J (Zh J tf_95_1 J ⟨J, J⟩) ?_
  refine Yb 28 (some 1) (i := 7) J J J J J (Zq (i := 0) J Xb J J J ⟨J, J⟩) ?_
  refine Yb 29 (none) (i := 8) J J J J J (Yc J te_93 J (.seq _ _) J J (htc) ⟨J, J⟩) ?_
  refine Yb 30 (none) (i := 9) J J J J J (Yd (cs' := [_, _, _, _]) J Yq J J J ⟨J, J⟩) ?_
  refine Xn 0 (i := 10) J J J J J (Zo (cs' := [_, _, _, _]) (i := 0) J Xk J J J J J (Uc J) J ⟨_, J, ?_⟩)
  show AGo _ _ _ _ _ _ _
  refine Zb (Ya ?_)
  first | refine Yl (i := 0) J J J Yq J (Vw _) by3 ⟨?_, J⟩ | refine Yl (i := 1) J J J Yq J (Vw _) by3 ⟨?_, J⟩
  have hn : nxt L ⟨a, lv, e, wh⟩ = t := by
   unfold nxt
   rw [if_neg (fun q => g19 (.inl q)), ht]; rfl
  rw [hn]; rfl
 ·refine Zt J (Zg (Zc (Za 20 J J J (Ym (ns := []) (xs := []) J Wf J tfl_97 J J J J (Zs J J (Zo (cs' := [_, _, _, _]) (i := 0) J Xk J J J J J (Uc J) J (Vp (Zb (Ya ?_)))))))))
  first | refine Yl (i := 0) J J J Yq J (Vw _) by3 ⟨?_, J⟩ | refine Yl (i := 1) J J J Yq J (Vw _) by3 ⟨?_, J⟩
  have hn : nxt L ⟨a, lv, e, wh⟩ = tok0 0 := by
   unfold nxt
   by_cases q : e ≠ 0
   ·rw [if_pos q]
   ·rw [if_neg q, List.getElem?_eq_none (g19.resolve_left q)]; rfl
  rw [hn]; rfl
set_option maxHeartbeats 4000000 in
set_option maxRecDepth 100000 in
theorem is_p (b : Nat) (L : List Tok) (p : PS) (s : ByteArray) : KBCall Tryz.prog 80 [.ptr b 0, .val (.string s)] [.loc b (psC L p)] (isP L p s = true) := by
 have HN := next_c b L p
 have hI : isP L p s = true ↔ (6 ≤ (nxt L p).k ∧ (nxt L p).t = s) := by unfold isP; simp
 generalize isP L p s = c at *
 generalize nxt L p = t at *
 obtain ⟨tk, tt, tn, ta⟩ := t
 simp only [Tok.av] at HN hI
 refine Zw Tryz.func80 J (by kernel_rfl) J (Uc J) ?_
 refine Ye (Zg (Zc (Za 4 J J J (Ze J J (Vp (Zb (Zg (Zc (Za 6 J J J (Zd J J (Za 7 J J J (Wq (xs := [.tmp 6]) [0] J J J (HN) by1 ?_))))))))))))
 refine Za 5 J J J (Zy (cs' := [_, _, _, _]) J Wf J J ?_); intro b5
 refine Zs J J (Zo (cs' := [_, _, _, _]) (i := 0) J Xk J J J J J (Uc J) J (Vp (Zb (Zg (Xm 4 (6 ≤ tk ∧ tt = s) ?_ _ _ J ?_)))))
 ·skip
  refine Za 8 J J J (Zh J Xf J (Za 9 J J J (Zq (i := 0) J Xb J J J (Za 10 J J J (Wa J J J ?_))))); intro c10 h10
  refine Za 11 J J J (Zd J J ?_)
  rcases Zi h10 with ⟨rfl, g10⟩ | ⟨rfl, g10⟩
  ·skip
   refine Zk 12 J J J J J (Zk 13 J J J J J (Zk 14 J J J J J (Zk 15 J J J J J (Za 16 J J J (Zn J J J (Za 4 J J J (Ze J J ?_)))))))
   refine Vp (Ua J ?_ by5 by3)
   clear HN hI; first | (simp_all; done) | grind
  ·skip
   refine Zl 12 J J J J J (Zh J Xh J (Zl 13 J J J J J (Zq (i := 0) J Yz J J J (Zl 14 J J J J J (Zd J J (Zl 15 J J J J J (Xu J J J ?_))))))); intro c15 h15
   refine Za 16 J J J (Zn J J J (Za 4 J J J (Ze J J (Vp (Ua J ?_ by5 by3)))))
   clear HN hI; first | (simp_all; done) | grind
 intro c4 h4
 exact Zb (Ya (Yh J J (Vw _) by3 ⟨⟨_, h4.trans hI.symm, J⟩, J⟩))
set_option maxHeartbeats 4000000 in
set_option maxRecDepth 100000 in
theorem fail_c (b : Nat) (L : List Tok) (p : PS) (e wh : Int) : MCall Tryz.prog 79 [.ptr b 0, .val (.int .i64 e), .val (.int .i64 wh)] (.loc b (psC L p)) (.tup []) (.loc b (psC L (failP p e wh))) := by
 obtain ⟨a, lv, e0, wh0⟩ := p
 have hf : failP ⟨a, lv, e0, wh0⟩ e wh = if e0 = 0 then ⟨a, lv, e, wh⟩ else ⟨a, lv, e0, wh0⟩ := rfl
 rw [hf]
 simp only [psC]
 refine Zw Tryz.func79 J (by kernel_rfl) J (Uc J) ?_
 refine Ye (Zg (Zc (Za 6 J J J (Zd J J (Za 7 J J J (Yj J J (Za 8 J J J (Zh J Vl J (Za 9 J J J (Zq (i := 0) J Xb J J J ?_))))))))))
 refine Za 10 J J J (Yr J J J ?_); intro c10 h10
 refine Vp (Zb ?_)
 rcases Zi h10 with ⟨rfl, g10⟩ | ⟨rfl, g10⟩
 ·refine Zr J (Zv (go_end ?_))
  exact out_none J (Vv (by simp [g10] <;> rfl)) ⟨J, J⟩
 ·refine Zt J (Zg (Zc (Za 11 J J J (Zd J J (Za 12 J J J (Zd J J (Za 13 J J J (Yj J J (Za 14 J J J (Zh J Vl J (Zs J J (Zo (i := 0) J Wi J J J J J (Uc J) J ?_))))))))))))
  refine Vp (Zb (Zc (Za 15 J J J (Zd J J (Za 16 J J J (Zd J J (Za 17 J J J (Yj J J (Za 18 J J J (Zh J tf_95_4 J (Zs J J (Zo (i := 0) J Wi J J J J J (Uc J) J ?_))))))))))))
  refine Vp (go_end ?_)
  exact out_none J (Vv (by simp [g10] <;> rfl)) ⟨J, J⟩
set_option maxHeartbeats 4000000 in
set_option maxRecDepth 100000 in
theorem take_c (b : Nat) (L : List Tok) (hL : L.length ≤ 100000) (p : PS) (hp : p.at_ ≤ L.length) (kind : Int) (s : ByteArray) : MCall Tryz.prog 55 [.ptr b 0, .val (.int .i64 kind), .val (.string s)] (.loc b (psC L p)) (.agg (takeP L p kind s).1.av) (.loc b (psC L (takeP L p kind s).2)) := by
 have HN := next_c b L p
 have HF := fail_c b L p 110 (nxt L p).a
 obtain ⟨t, ht⟩ : ∃ t, nxt L p = t := ⟨_, rfl⟩
 obtain ⟨r, hr⟩ : ∃ r, takeP L p kind s = r := ⟨_, rfl⟩
 have hr0 := hr
 unfold takeP at hr
 rw [ht] at HN HF hr
 rw [hr0]
 obtain ⟨a, lv, e0, wh0⟩ := p
 obtain ⟨tk, tt, tn, ta⟩ := t
 have hp : a ≤ L.length := hp
 simp only [psC, Tok.av] at HN HF hr ⊢
 refine Zw Tryz.func55 J (by kernel_rfl) J (Uc J) ?_
 refine Ye (Zg (Zc (Za 6 J J J (Zy (cs' := [_, _, _, _]) J Wf J J ?_)))); intro b6
 refine Vp (Zb (Zg (Zc (Za 8 J J J (Zd J J (Za 9 J J J (Wq (xs := [.tmp 8]) [1] J J J (HN) by1 ?_)))))))
 refine Za 7 J J J (Zy (cs' := [_, _, _, _]) J Wf J J ?_); intro b7
 refine Zs J J (Zo (cs' := [_, _, _, _]) (i := 0) J Xk J J J J J (Uc J) J (Vp (Zb (Zg (Zg (Zc (Za 10 J J J (Zd J J (Za 11 J J J (Yj J J (Za 12 J J J (Zh J Vl J (Za 13 J J J (Zq (i := 2) J Xb J J J ?_))))))))))))))
 refine Za 14 J J J (Xq J J J ?_); intro c14 h14
 refine Vp (Zb ?_)
 rcases Zi h14 with ⟨rfl, g14⟩ | ⟨rfl, g14⟩
 ·refine Zr J (Zv (Zb (Zg (Zg (Xm 38 ((kind < 6 ∧ tk ≠ kind) ∨ (6 ≤ kind ∧ (tk < 6 ∨ tt ≠ s))) ?_ _ _ J ?_)))))
  ·skip
   refine Za 16 J J J (Zd J J (Za 17 J J J (Yt J J J ?_))); intro c17 h17
   refine Za 18 J J J (Zd J J ?_)
   rcases Zi h17 with ⟨rfl, g17⟩ | ⟨rfl, g17⟩
   ·skip
    refine Zk 19 J J J J J (Zk 20 J J J J J (Zk 21 J J J J J (Zk 22 J J J J J (Za 23 J J J (Zn J J J (Za 24 J J J (Zd J J ?_)))))))
    refine Zl 25 J J J J J (Zd J J (Zl 26 J J J J J (Wa J J J ?_))); intro c26 h26
    refine Zl 27 J J J J J (Zd J J ?_)
    rcases Zi h26 with ⟨rfl, g26⟩ | ⟨rfl, g26⟩
    ·skip
     refine Zk 28 J J J J J (Zk 29 J J J J J (Zk 30 J J J J J (Zk 31 J J J J J (Yk 32 J J J J J (Yk 33 J J J J J ?_)))))
     refine Yk 34 J J J J J (Yk 35 J J J J J (Zk 36 J J J J J (Zl 37 J J J J J (Zn J J J (Za 38 J J J (Zn J J J (Vp ?_)))))))
     refine Ua J ?_ by5 by3
     clear HN HF hr; first | (simp_all; done) | grind
    ·skip
     refine Zl 28 J J J J J (Zh J Xf J (Zl 29 J J J J J (Zq (i := 0) J Xb J J J (Zl 30 J J J J J (Yt J J J ?_))))); intro c30 h30
     refine Zl 31 J J J J J (Zd J J ?_)
     rcases Zi h30 with ⟨rfl, g30⟩ | ⟨rfl, g30⟩
     ·skip
      refine Zl 32 J J J J J (Zh J Xh J (Zl 33 J J J J J (Zq (i := 0) J Yz J J J (Zl 34 J J J J J (Zd J J (Zl 35 J J J J J (op_sneq J J J ?_))))))); intro c35 h35
      refine Zl 36 J J J J J (Zn J J J (Zl 37 J J J J J (Zn J J J (Za 38 J J J (Zn J J J (Vp (Ua J ?_ by5 by3)))))))
      clear HN HF hr; first | (simp_all; done) | grind
     ·skip
      refine Zk 32 J J J J J (Zk 33 J J J J J (Zk 34 J J J J J (Zk 35 J J J J J (Zl 36 J J J J J (Zn J J J (Zl 37 J J J J J (Zn J J J ?_)))))))
      refine Za 38 J J J (Zn J J J (Vp (Ua J ?_ by5 by3)))
      clear HN HF hr; first | (simp_all; done) | grind
   ·skip
    refine Zl 19 J J J J J (Zh J Xf J (Zl 20 J J J J J (Zq (i := 0) J Xb J J J (Zl 21 J J J J J (Zd J J (Zl 22 J J J J J (Xq J J J ?_))))))); intro c22 h22
    refine Za 23 J J J (Zn J J J (Za 24 J J J (Zd J J ?_)))
    rcases Zi h22 with ⟨rfl, g22⟩ | ⟨rfl, g22⟩
    ·skip
     refine Zl 25 J J J J J (Zd J J (Zl 26 J J J J J (Wa J J J ?_))); intro c26 h26
     refine Zl 27 J J J J J (Zd J J ?_)
     rcases Zi h26 with ⟨rfl, g26⟩ | ⟨rfl, g26⟩
     ·skip
      refine Zk 28 J J J J J (Zk 29 J J J J J (Zk 30 J J J J J (Zk 31 J J J J J (Yk 32 J J J J J (Yk 33 J J J J J ?_)))))
      refine Yk 34 J J J J J (Yk 35 J J J J J (Zk 36 J J J J J (Zl 37 J J J J J (Zn J J J (Za 38 J J J (Zn J J J (Vp ?_)))))))
      refine Ua J ?_ by5 by3
      clear HN HF hr; first | (simp_all; done) | grind
     ·skip
      refine Zl 28 J J J J J (Zh J Xf J (Zl 29 J J J J J (Zq (i := 0) J Xb J J J (Zl 30 J J J J J (Yt J J J ?_))))); intro c30 h30
      refine Zl 31 J J J J J (Zd J J ?_)
      rcases Zi h30 with ⟨rfl, g30⟩ | ⟨rfl, g30⟩
      ·skip
       refine Zl 32 J J J J J (Zh J Xh J (Zl 33 J J J J J (Zq (i := 0) J Yz J J J (Zl 34 J J J J J (Zd J J (Zl 35 J J J J J (op_sneq J J J ?_))))))); intro c35 h35
       refine Zl 36 J J J J J (Zn J J J (Zl 37 J J J J J (Zn J J J (Za 38 J J J (Zn J J J (Vp (Ua J ?_ by5 by3)))))))
       clear HN HF hr; first | (simp_all; done) | grind
      ·skip
       refine Zk 32 J J J J J (Zk 33 J J J J J (Zk 34 J J J J J (Zk 35 J J J J J (Zl 36 J J J J J (Zn J J J (Zl 37 J J J J J (Zn J J J ?_)))))))
       refine Za 38 J J J (Zn J J J (Vp (Ua J ?_ by5 by3)))
       clear HN HF hr; first | (simp_all; done) | grind
    ·skip
     refine Zk 25 J J J J J (Zk 26 J J J J J (Zk 27 J J J J J (Yk 28 J J J J J (Yk 29 J J J J J (Yk 30 J J J J J ?_)))))
     refine Yk 31 J J J J J (Yk 32 J J J J J (Yk 33 J J J J J (Yk 34 J J J J J (Yk 35 J J J J J (Yk 36 J J J J J ?_)))))
     refine Zk 37 J J J J J (Za 38 J J J (Zn J J J (Vp (Ua J ?_ by5 by3))))
     clear HN HF hr; first | (simp_all; done) | grind
  intro c38 h38
  refine Zb ?_
  rcases Zi h38 with ⟨rfl, g38⟩ | ⟨rfl, g38⟩
  ·refine Zr J (Zv (Zb (Zg (Zc (Za 44 J J J (Zd J J (Za 45 J J J (Yj J J (Za 46 J J J (Zh J tf_95_1 J (Za 47 J J J (Zq (i := 2) J Xb J J J (Za 48 J J J (Yw J J J (Ug _ (by omega)) ?_))))))))))))))
   refine Za 49 J J J (Yj J J (Za 50 J J J (Zh J tf_95_1 J (Zs J J (Zo (i := 2) J Wi J J J J J (Uc J) J (Vp (Zb (Zg (Zc (Za 51 J J J (Zx (cs' := [_, _, _, _]) (i := 0) J Yq J J J J (Zs J J (Zo (cs' := [_, _, _, _]) (i := 1) J Xk J J J J J (Uc J) J ?_)))))))))))))
   refine Vp (Zb (Ya ?_))
   rw [if_neg g14, if_neg g38] at hr; subst hr; exact Yl (i := 1) rfl rfl rfl Yq rfl (Vw _) (Vt _ (Vt _ (Vv rfl))) ⟨rfl, rfl⟩
  ·refine Zt J (Zg (Zc (Za 39 J J J (Zd J J (Za 40 J J J (Zh J Wt J (Za 41 J J J (Zq (i := 0) J Xb J J J (Za 42 J J J (Yg (xs := [.tmp 39, .const (.int .i64 110), .tmp 41]) (i := 2) J J J (HF) by1 ?_))))))))))
   refine Vp (Zb (Zg (Zc (Za 43 J J J (Ym (ns := []) (xs := []) J Wf J tfl_97 J J J J (Zs J J (Zo (cs' := [_, _, _, _]) (i := 1) J Xk J J J J J (Uc J) J (Vp (Zb (Ya ?_))))))))))
   rw [if_neg g14, if_pos g38] at hr; subst hr; exact Yl (i := 1) rfl rfl rfl Yq rfl (Vw _) by3 ⟨rfl, rfl⟩
 ·refine Zt J (Zg (Zc (Za 15 J J J (Zx (cs' := [_, _, _, _]) (i := 0) J Yq J J J J (Zs J J (Zo (cs' := [_, _, _, _]) (i := 1) J Xk J J J J J (Uc J) J (Vp (Zb (Ya ?_)))))))))
  rw [if_pos g14] at hr; subst hr; exact Yl (i := 1) rfl rfl rfl Yq rfl (Vw _) by3 ⟨rfl, rfl⟩
set_option maxHeartbeats 4000000 in
set_option maxRecDepth 100000 in
theorem may_c (b : Nat) (L : List Tok) (hL : L.length ≤ 100000) (p : PS) (s : ByteArray) : MayCall Tryz.prog 51 [.ptr b 0, .val (.string s)] (.loc b (psC L p)) (isP L p s = true) (.loc b (psC L (stepP p))) := by
 have HI := is_p b L p s
 have hl := is_lt (L := L) (p := p) (s := s)
 obtain ⟨a, lv, e0, wh0⟩ := p
 simp only [psC] at HI hl ⊢
 refine Zw Tryz.func51 J (by kernel_rfl) J (Uc J) ?_
 refine Ye (Zg (Zc (Za 4 J J J (Ze J J (Vp (Zb (Zg (Zg (Zc (Za 5 J J J (Zd J J (Za 6 J J J (Zd J J ?_)))))))))))))
 refine Za 7 J J J (op_callkb (xs := [.tmp 5, .tmp 6]) [0] J J J (HI) by1 ?_); intro c7 h7
 refine Za 8 J J J (Xt J J ?_); intro c8 h8
 try replace h8 := nott h8 h7
 refine Vp (Zb ?_)
 rcases Zi h8 with ⟨rfl, g8⟩ | ⟨rfl, g8⟩
 ·refine Zr J (Zv (Zb (Zg ?_)))
  have := hl (Classical.not_not.1 g8)
  refine Zc (Za 9 J J J (Zd J J (Za 10 J J J (Yj J J (Za 11 J J J (Zh J tf_95_1 J (Za 12 J J J (Zq (i := 0) J Xb J J J (Za 13 J J J (Yw J J J (Ug _ (by omega)) ?_))))))))))
  refine Za 14 J J J (Yj J J (Za 15 J J J (Zh J tf_95_1 J (Zs J J (Zo (i := 0) J Wi J J J J J (Uc J) J (Vp (Zb (Zg (Zc (Za 4 J J J (Ze J J (Vp (Zb ?_)))))))))))))
  exact Ya (Yh J J (Vw _) (Vv J) (.inl ⟨Classical.not_not.1 g8, J, J⟩))
 ·exact Zt J (Zg (Zc (Za 4 J J J (Ze J J (Vp (Zb (Ya (Yh J J (Vw _) (Vq _) (.inr ⟨g8, J, J⟩)))))))))
set_option maxHeartbeats 4000000 in
set_option maxRecDepth 100000 in
theorem deeper_c (b : Nat) (L : List Tok) (p : PS) (h1 : 0 ≤ p.lv) (h2 : p.lv ≤ 1000) : MCall Tryz.prog 104 [.ptr b 0] (.loc b (psC L p)) (.tup []) (.loc b (psC L (deeperP L p))) := by
 have HN := next_c b L { p with lv := p.lv + 1 }
 have HF := fail_c b L { p with lv := p.lv + 1 } 111 (nxt L { p with lv := p.lv + 1 }).a
 obtain ⟨t, ht⟩ : ∃ t, nxt L { p with lv := p.lv + 1 } = t := ⟨_, rfl⟩
 obtain ⟨r, hr⟩ : ∃ r, deeperP L p = r := ⟨_, rfl⟩
 have hr0 := hr
 unfold deeperP at hr
 rw [ht] at HN HF hr
 rw [hr0]
 obtain ⟨a, lv, e0, wh0⟩ := p
 obtain ⟨tk, tt, tn, ta⟩ := t
 simp only [psC, Tok.av] at HN HF hr h1 h2 ⊢
 refine Zw Tryz.func104 J (by kernel_rfl) J (Uc J) ?_
 refine Ye (Zg (Zc (Za 2 J J J (Zd J J (Za 3 J J J (Yj J J (Za 4 J J J (Zh J tf_95_2 J (Za 5 J J J (Zq (i := 0) J Xb J J J ?_))))))))))
 refine Za 6 J J J (Yw J J J (Ug _ (by omega)) ?_)
 refine Za 7 J J J (Yj J J (Za 8 J J J (Zh J tf_95_2 J (Zs J J (Zo (i := 0) J Wi J J J J J (Uc J) J (Vp (Zb (Zg (Zc (Za 9 J J J (Zd J J (Za 10 J J J (Yj J J ?_)))))))))))))
 refine Za 11 J J J (Zh J tf_95_2 J (Za 12 J J J (Zq (i := 0) J Xb J J J (Za 13 J J J (Ww J J J ?_))))); intro c13 h13
 refine Vp (Zb ?_)
 rcases Zi h13 with ⟨rfl, g13⟩ | ⟨rfl, g13⟩
 ·refine Zr J (Zv (go_end ?_))
  rw [if_neg (by omega)] at hr; subst hr; exact out_none rfl (Vv rfl) ⟨rfl, rfl⟩
 ·refine Zt J (Zc (Za 14 J J J (Zd J J (Za 15 J J J (Zd J J (Za 16 J J J (Wq (xs := [.tmp 15]) [0] J J J (HN) by1 ?_)))))))
  refine Za 17 J J J (Wy (ft := 3) (fo := 3) J (by kernel_rfl) Xb J J ?_)
  refine Za 18 J J J (Yg (xs := [.tmp 14, .const (.int .i64 111), .tmp 17]) (i := 0) J J J (HF) by1 ?_)
  refine Vp (go_end ?_)
  rw [if_pos (by omega)] at hr; subst hr; exact out_none rfl (Vv rfl) ⟨rfl, rfl⟩
set_option maxHeartbeats 4000000 in
set_option maxRecDepth 100000 in
theorem pName_c (b : Nat) (L : List Tok) (hL : L.length ≤ 100000) (n : Nat) (p : PS) (k : POk L n p) : MCall Tryz.prog 84 [.ptr b 0] (.loc b (psC L p)) (.agg (nameP L p).1.av) (.loc b (psC L (nameP L p).2)) := by
 refine Zw Tryz.func84 J (by kernel_rfl) J (Uc J) ?_
 refine Ye (Zg (Zc (Za 2 J J J (Zy (cs' := [_, _, _, _]) J Wf J J ?_)))); intro b2
 refine Vp (Zb (Zg (Zg (Zc (Za 4 J J J (Zd J J (Za 5 J J J (op_mayc (xs := [.tmp 4, .const (.string ⟨#[40]⟩)]) (i := 1) J J J (may_c b L hL p kLP) by1 ?_ ?_))))))))
 ·intro g5
  refine Vp (Zb (Zt J (Zg ?_)))
  have a1 := Xo k g5
  have k1 := a1.ok k
  have a2 := Yn (kind := 5) (s := kE) (by decide) k1
  have k2 := a2.ok k1
  refine Zc (Za 6 J J J (Zd J J (Za 7 J J J (Yg (xs := [.tmp 6, .const (.int .i64 5), .const (.string ⟨#[]⟩)]) (i := 1) J J J (take_c b L hL _ k1.1 5 kE) by1 ?_))))
  refine Za 3 J J J (Zy (cs' := [_, _, _, _]) J Wf J J ?_); intro b3
  refine Zs J J (Zo (cs' := [_, _, _, _]) (i := 0) J Xk J J J J J (Uc J) J (Vp (Zb (Zg (Zc (Za 8 J J J (Zd J J (Za 9 J J J (Yg (xs := [.tmp 8, .const (.int .i64 7), .const (.string ⟨#[41]⟩)]) (i := 2) J J J (take_c b L hL _ k2.1 7 kRP) by1 ?_)))))))))
  refine Vp (Zb (Zg (Zc (Za 10 J J J (Zx (cs' := [_, _, _, _]) (i := 0) J Yq J J J J (Zs J J (Zo (cs' := [_, _, _, _]) (i := 1) J Xk J J J J J (Uc J) J (Vp (Zb (Ya ?_))))))))))
  rw [nameP, if_pos g5]; exact Yl (i := 1) rfl rfl rfl Yq rfl (Vw _) (Vt _ (Vt _ (Vv rfl))) ⟨rfl, rfl⟩
 ·intro g5
  refine Vp (Zb (Zr J (Zv (Zb (Zg (Zc (Za 11 J J J (Zd J J (Za 12 J J J (Yg (xs := [.tmp 11, .const (.int .i64 1), .const (.string ⟨#[]⟩)]) (i := 1) J J J (take_c b L hL _ k.1 1 kE) by1 ?_))))))))))
  refine Zs J J (Zo (cs' := [_, _, _, _]) (i := 0) J Xk J J J J J (Uc J) J (Vp (Zb (Ya ?_))))
  rw [nameP, if_neg g5]; exact Yl (i := 0) rfl rfl rfl Yq rfl (Vw _) (Vt _ (Vv rfl)) ⟨rfl, rfl⟩
theorem uppersL_go {L : List Tok} {f : Nat} {p : PS} {acc : List ByteArray} (h : isP L p kComma = true) : uppersL L (f + 1) p acc = uppersL L f (takeP L (stepP p) 2 kE).2 (acc ++ [(takeP L (stepP p) 2 kE).1.t]) := by rw [uppersL, if_pos h]
theorem uppersL_end {L : List Tok} {f : Nat} {p : PS} {acc : List ByteArray} (h : ¬ isP L p kComma = true) : uppersL L f p acc = (acc, p) := by
 cases f with
 | zero => rfl
 | succ f => rw [uppersL, if_neg h]
set_option maxHeartbeats 4000000 in
set_option maxRecDepth 100000 in
theorem uppers_c (b : Nat) (L : List Tok) (hL : L.length ≤ 100000) (n : Nat) (p : PS) (k : POk L n p) : MCall Tryz.prog 83 [.ptr b 0] (.loc b (psC L p)) (.seq 1 (strs (uppersP L p).1)) (.loc b (psC L (uppersP L p).2)) := by
 have a1 := Yn (L := L) (kind := 2) (s := kE) (by decide) k
 have k1 := a1.ok k
 have hE : uppersP L p = uppersL L (L.length + 1) (takeP L p 2 kE).2 [(takeP L p 2 kE).1.t] := rfl
 refine Zw Tryz.func83 J (by kernel_rfl) J (Uc J) ?_
 refine Ye (Zg (Zc (Za 2 J J J (Ze J J (Vp (Zb (Zg (Zc (Za 4 J J J (Zd J J (Za 5 J J J (Yg (xs := [.tmp 4, .const (.int .i64 2), .const (.string ⟨#[]⟩)]) (i := 0) J J J (take_c b L hL _ k.1 2 kE) by1 ?_))))))))))))
 refine Za 6 J J J (Wy (ft := 9) (fo := 1) J (by kernel_rfl) Yz J J ?_)
 refine Za 7 J J J (op_buildSlice_own (xs := [.tmp 6]) el_68 J J J J J J (Uc J) ?_); intro u7
 refine Za 3 J J J (Ze J J (Vp (Zb (Zg (Zz ?_)))))
 apply Wg [1, 3, 4, 5, 6, 7, 8, 9, 10, 11, 12, 13, 14, 15] (σ := PS × Nat × List ByteArray × Value) (fun zz => match zz with | (q, f, acc, u) => [(3, .own u 1 (strs acc))]) (fun zz => match zz with | (q, f, acc, u) => [.own 9 1 u, .loc b (psC L q)]) (fun zz => match zz with | (q, f, acc, u) => POk L n q ∧ L.length - q.at_ < f ∧ acc.length ≤ q.at_ + 1 ∧ uppersP L p = uppersL L f q acc) (fun zz => match zz with | (q, f, acc, u) => f) (((takeP L p 2 kE).2, L.length + 1, [(takeP L p 2 kE).1.t], u7))
 ·repeat' (first | exact Uf | apply Ud rfl | apply Ue rfl)
 ·exact ⟨k1, by omega, by simp, hE⟩
 ·exact by4
 ·exact by3
 rintro ⟨q, f, acc, u⟩ hI
 try dsimp only [List.cons_append, List.nil_append] at hI ⊢
 obtain ⟨h1, h2, h3, hu⟩ := hI
 have hq1 := h1.1
 have hle : (strs acc).length ≤ 200000 := by rw [Xs]; omega
 refine Zg (Zg (Zc (Za 8 J J J (Zd J J (Za 9 J J J (op_mayc (xs := [.tmp 8, .const (.string ⟨#[44]⟩)]) (i := 1) J J J (may_c b L hL q kComma) by1 ?_ ?_))))))
 ·intro g9
  refine Vp (Zb (Zt J (Zv (Zb (Zz ?_)))))
  obtain ⟨f, rfl⟩ : ∃ f', f = f' + 1 := ⟨f - 1, by omega⟩
  rw [uppersL_go g9] at hu
  have b1 := Xo h1 g9
  have l1 := b1.ok h1
  have b2 := Yn (kind := 2) (s := kE) (by decide) l1
  have l2 := b2.ok l1
  have b3 : (stepP q).at_ ≤ _ := b2.1
  have b4 : (stepP q).at_ = q.at_ + 1 := rfl
  have b5 := (is_lt g9).2
  have HT := take_c b L hL _ l1.1 2 kE
  obtain ⟨⟨t2, q2⟩, e2⟩ : ∃ r, takeP L (stepP q) 2 kE = r := ⟨_, rfl⟩
  rw [e2] at HT hu l2 b3
  simp only [Tok.av] at HT hu l2 b3
  refine Zc (Za 10 J J J (Zd J J (Za 11 J J J (Zd J J (Za 12 J J J (Yg (xs := [.tmp 11, .const (.int .i64 2), .const (.string ⟨#[]⟩)]) (i := 1) J J J (HT) by1 ?_))))))
  refine Za 13 J J J (Wy (ft := 9) (fo := 1) J (by kernel_rfl) Yz J J ?_)
  refine Za 14 J J J (Yi (xs := [.tmp 13]) el_68 J J J J J J (Uc J) (Za 15 J J J (Xj (i := 0) el_68 J J J J (.seq _ _) by6 ?_)))
  intro u15
  refine Za 3 J J J (Ze J J (Vp (Yv (Xa ?_))))
  refine ⟨(q2, f, acc ++ [t2.t], u15), ⟨l2, (by show L.length - q2.at_ < f; omega), (by show (acc ++ [t2.t]).length ≤ q2.at_ + 1; rw [List.length_append]; simp; omega), hu⟩, Nat.lt_succ_self f, Vz J (Ub (by simp [strs, AV.cells])) by4, by3⟩
 ·intro g9
  refine Vp (Zb (Zr J (Xc (Xd (Xv (Xe (Zb (Zg (Zc (Za 16 J J J (Zd J J (Za 2 J J J (Ze J J ?_)))))))))))))
  refine Vp (Zb (Ya ?_))
  rw [uppersL_end g9] at hu; rw [hu]; exact Yh rfl rfl (Le.own_seq rfl) (Vt _ (Vq _)) ⟨rfl, rfl⟩
set_option maxHeartbeats 4000000 in
set_option maxRecDepth 100000 in
theorem starts_c (b : Nat) (L : List Tok) (p : PS) (what : Int) : KBCall Tryz.prog 81 [.ptr b 0, .val (.int .i64 what)] [.loc b (psC L p)] (startsP L what p) := by
 have HN := next_c b L p
 have H1 := is_p b L p kLP
 have H2 := is_p b L p kUn
 have H3 := is_p b L p kCase
 unfold startsP
 generalize isP L p kLP = x1 at *
 generalize isP L p kUn = x2 at *
 generalize isP L p kCase = x3 at *
 obtain ⟨⟨tk, tt, tn, ta⟩, ht⟩ : ∃ t, nxt L p = t := ⟨_, rfl⟩
 rw [ht] at HN ⊢
 simp only [Tok.av] at HN ⊢
 refine Zw Tryz.func81 J (by kernel_rfl) J (Uc J) ?_
 refine Ye (Zg (Zc (Za 4 J J J (Ze J J (Vp (Zb (Zg (Zc (Za 6 J J J (Zd J J (Za 7 J J J (Wq (xs := [.tmp 6]) [0] J J J (HN) by1 ?_))))))))))))
 refine Za 8 J J J (Wy (ft := 3) (fo := 0) J (by kernel_rfl) Xb J J ?_)
 refine Za 5 J J J (Ze J J (Vp (Zb (Zg (Zg (Xm 18 (tk = 1 ∨ tk = 2 ∨ x1 = true) ?_ _ _ J ?_))))))
 ·skip
  refine Za 9 J J J (Zd J J (Za 10 J J J (Yr J J J ?_))); intro c10 h10
  refine Za 11 J J J (Zd J J ?_)
  rcases Zi h10 with ⟨rfl, g10⟩ | ⟨rfl, g10⟩
  ·skip
   refine Zl 12 J J J J J (Zd J J (Zl 13 J J J J J (Yr J J J ?_))); intro c13 h13
   refine Za 14 J J J (Zn J J J (Za 15 J J J (Zd J J ?_)))
   rcases Zi h13 with ⟨rfl, g13⟩ | ⟨rfl, g13⟩
   ·skip
    refine Zl 16 J J J J J (Zd J J (Zl 17 J J J J J (op_callkb (xs := [.tmp 16, .const (.string ⟨#[40]⟩)]) [0] J J J (H1) by1 ?_))); intro c17 h17
    refine Za 18 J J J (Zn J J J (Vp (Ua J ?_ by5 by3)))
    clear HN H1 H2 H3; first | (simp_all; done) | grind
   ·skip
    refine Zk 16 J J J J J (Zk 17 J J J J J (Za 18 J J J (Zn J J J (Vp (Ua J ?_ by5 by3)))))
    clear HN H1 H2 H3; first | (simp_all; done) | grind
  ·skip
   refine Zk 12 J J J J J (Zk 13 J J J J J (Za 14 J J J (Zn J J J (Za 15 J J J (Zd J J (Zk 16 J J J J J (Zk 17 J J J J J ?_)))))))
   refine Za 18 J J J (Zn J J J (Vp (Ua J ?_ by5 by3)))
   clear HN H1 H2 H3; first | (simp_all; done) | grind
 intro c18 h18
 refine Zb ?_
 rcases Zi h18 with ⟨rfl, g18⟩ | ⟨rfl, g18⟩
 ·refine Zr J (Zv (Zb (Zg (Xm 4 ((1 ≤ what ∧ tk = 3) ∨ (what = 1 ∧ x2 = true) ∨ (what = 2 ∧ (tk = 4 ∨ x3 = true))) ?_ _ _ J ?_))))
  ·skip
   refine Za 19 J J J (Zd J J (Za 20 J J J (Wa J J J ?_))); intro c20 h20
   refine Za 21 J J J (Zd J J ?_)
   rcases Zi h20 with ⟨rfl, g20⟩ | ⟨rfl, g20⟩
   ·skip
    refine Zk 22 J J J J J (Zk 23 J J J J J (Za 24 J J J (Zn J J J (Za 25 J J J (Zd J J (Zl 26 J J J J J (Zd J J (Zl 27 J J J J J (Yr J J J ?_))))))))); intro c27 h27
    refine Zl 28 J J J J J (Zd J J ?_)
    rcases Zi h27 with ⟨rfl, g27⟩ | ⟨rfl, g27⟩
    ·skip
     refine Zk 29 J J J J J (Zk 30 J J J J J (Zl 31 J J J J J (Zn J J J (Za 32 J J J (Zn J J J (Za 33 J J J (Zd J J (Zl 34 J J J J J (Zd J J ?_)))))))))
     refine Zl 35 J J J J J (Yr J J J ?_); intro c35 h35
     refine Zl 36 J J J J J (Zd J J ?_)
     rcases Zi h35 with ⟨rfl, g35⟩ | ⟨rfl, g35⟩
     ·skip
      refine Zk 37 J J J J J (Zk 38 J J J J J (Zk 39 J J J J J (Yk 40 J J J J J (Yk 41 J J J J J (Zk 42 J J J J J ?_)))))
      refine Zl 43 J J J J J (Zn J J J (Za 44 J J J (Zn J J J (Za 4 J J J (Ze J J (Vp (Ua J ?_ by5 by3)))))))
      clear HN H1 H2 H3; first | (simp_all; done) | grind
     ·skip
      refine Zl 37 J J J J J (Zd J J (Zl 38 J J J J J (Yr J J J ?_))); intro c38 h38
      refine Zl 39 J J J J J (Zd J J ?_)
      rcases Zi h38 with ⟨rfl, g38⟩ | ⟨rfl, g38⟩
      ·skip
       refine Zl 40 J J J J J (Zd J J (Zl 41 J J J J J (op_callkb (xs := [.tmp 40, .const (.string ⟨#[99, 97, 115, 101]⟩)]) [0] J J J (H3) by1 ?_))); intro c41 h41
       refine Zl 42 J J J J J (Zn J J J (Zl 43 J J J J J (Zn J J J (Za 44 J J J (Zn J J J (Za 4 J J J (Ze J J (Vp (Ua J ?_ by5 by3)))))))))
       clear HN H1 H2 H3; first | (simp_all; done) | grind
      ·skip
       refine Zk 40 J J J J J (Zk 41 J J J J J (Zl 42 J J J J J (Zn J J J (Zl 43 J J J J J (Zn J J J (Za 44 J J J (Zn J J J (Za 4 J J J (Ze J J ?_)))))))))
       refine Vp (Ua J ?_ by5 by3)
       clear HN H1 H2 H3; first | (simp_all; done) | grind
    ·skip
     refine Zl 29 J J J J J (Zd J J (Zl 30 J J J J J (op_callkb (xs := [.tmp 29, .const (.string ⟨#[95]⟩)]) [0] J J J (H2) by1 ?_))); intro c30 h30
     refine Zl 31 J J J J J (Zn J J J (Za 32 J J J (Zn J J J (Za 33 J J J (Zd J J ?_)))))
     rcases Zi h30 with ⟨rfl, g30⟩ | ⟨rfl, g30⟩
     ·skip
      refine Zl 34 J J J J J (Zd J J (Zl 35 J J J J J (Yr J J J ?_))); intro c35 h35
      refine Zl 36 J J J J J (Zd J J ?_)
      rcases Zi h35 with ⟨rfl, g35⟩ | ⟨rfl, g35⟩
      ·skip
       refine Zk 37 J J J J J (Zk 38 J J J J J (Zk 39 J J J J J (Yk 40 J J J J J (Yk 41 J J J J J (Zk 42 J J J J J ?_)))))
       refine Zl 43 J J J J J (Zn J J J (Za 44 J J J (Zn J J J (Za 4 J J J (Ze J J (Vp (Ua J ?_ by5 by3)))))))
       clear HN H1 H2 H3; first | (simp_all; done) | grind
      ·skip
       refine Zl 37 J J J J J (Zd J J (Zl 38 J J J J J (Yr J J J ?_))); intro c38 h38
       refine Zl 39 J J J J J (Zd J J ?_)
       rcases Zi h38 with ⟨rfl, g38⟩ | ⟨rfl, g38⟩
       ·skip
        refine Zl 40 J J J J J (Zd J J (Zl 41 J J J J J (op_callkb (xs := [.tmp 40, .const (.string ⟨#[99, 97, 115, 101]⟩)]) [0] J J J (H3) by1 ?_))); intro c41 h41
        refine Zl 42 J J J J J (Zn J J J (Zl 43 J J J J J (Zn J J J (Za 44 J J J (Zn J J J (Za 4 J J J (Ze J J (Vp (Ua J ?_ by5 by3)))))))))
        clear HN H1 H2 H3; first | (simp_all; done) | grind
       ·skip
        refine Zk 40 J J J J J (Zk 41 J J J J J (Zl 42 J J J J J (Zn J J J (Zl 43 J J J J J (Zn J J J (Za 44 J J J (Zn J J J (Za 4 J J J (Ze J J ?_)))))))))
        refine Vp (Ua J ?_ by5 by3)
        clear HN H1 H2 H3; first | (simp_all; done) | grind
     ·skip
      refine Zk 34 J J J J J (Zk 35 J J J J J (Zk 36 J J J J J (Yk 37 J J J J J (Yk 38 J J J J J (Yk 39 J J J J J ?_)))))
      refine Yk 40 J J J J J (Yk 41 J J J J J (Yk 42 J J J J J (Zk 43 J J J J J (Za 44 J J J (Zn J J J (Za 4 J J J (Ze J J ?_)))))))
      refine Vp (Ua J ?_ by5 by3)
      clear HN H1 H2 H3; first | (simp_all; done) | grind
   ·skip
    refine Zl 22 J J J J J (Zd J J (Zl 23 J J J J J (Yr J J J ?_))); intro c23 h23
    refine Za 24 J J J (Zn J J J (Za 25 J J J (Zd J J ?_)))
    rcases Zi h23 with ⟨rfl, g23⟩ | ⟨rfl, g23⟩
    ·skip
     refine Zl 26 J J J J J (Zd J J (Zl 27 J J J J J (Yr J J J ?_))); intro c27 h27
     refine Zl 28 J J J J J (Zd J J ?_)
     rcases Zi h27 with ⟨rfl, g27⟩ | ⟨rfl, g27⟩
     ·skip
      refine Zk 29 J J J J J (Zk 30 J J J J J (Zl 31 J J J J J (Zn J J J (Za 32 J J J (Zn J J J (Za 33 J J J (Zd J J (Zl 34 J J J J J (Zd J J ?_)))))))))
      refine Zl 35 J J J J J (Yr J J J ?_); intro c35 h35
      refine Zl 36 J J J J J (Zd J J ?_)
      rcases Zi h35 with ⟨rfl, g35⟩ | ⟨rfl, g35⟩
      ·skip
       refine Zk 37 J J J J J (Zk 38 J J J J J (Zk 39 J J J J J (Yk 40 J J J J J (Yk 41 J J J J J (Zk 42 J J J J J ?_)))))
       refine Zl 43 J J J J J (Zn J J J (Za 44 J J J (Zn J J J (Za 4 J J J (Ze J J (Vp (Ua J ?_ by5 by3)))))))
       clear HN H1 H2 H3; first | (simp_all; done) | grind
      ·skip
       refine Zl 37 J J J J J (Zd J J (Zl 38 J J J J J (Yr J J J ?_))); intro c38 h38
       refine Zl 39 J J J J J (Zd J J ?_)
       rcases Zi h38 with ⟨rfl, g38⟩ | ⟨rfl, g38⟩
       ·skip
        refine Zl 40 J J J J J (Zd J J (Zl 41 J J J J J (op_callkb (xs := [.tmp 40, .const (.string ⟨#[99, 97, 115, 101]⟩)]) [0] J J J (H3) by1 ?_))); intro c41 h41
        refine Zl 42 J J J J J (Zn J J J (Zl 43 J J J J J (Zn J J J (Za 44 J J J (Zn J J J (Za 4 J J J (Ze J J (Vp (Ua J ?_ by5 by3)))))))))
        clear HN H1 H2 H3; first | (simp_all; done) | grind
       ·skip
        refine Zk 40 J J J J J (Zk 41 J J J J J (Zl 42 J J J J J (Zn J J J (Zl 43 J J J J J (Zn J J J (Za 44 J J J (Zn J J J (Za 4 J J J (Ze J J ?_)))))))))
        refine Vp (Ua J ?_ by5 by3)
        clear HN H1 H2 H3; first | (simp_all; done) | grind
     ·skip
      refine Zl 29 J J J J J (Zd J J (Zl 30 J J J J J (op_callkb (xs := [.tmp 29, .const (.string ⟨#[95]⟩)]) [0] J J J (H2) by1 ?_))); intro c30 h30
      refine Zl 31 J J J J J (Zn J J J (Za 32 J J J (Zn J J J (Za 33 J J J (Zd J J ?_)))))
      rcases Zi h30 with ⟨rfl, g30⟩ | ⟨rfl, g30⟩
      ·skip
       refine Zl 34 J J J J J (Zd J J (Zl 35 J J J J J (Yr J J J ?_))); intro c35 h35
       refine Zl 36 J J J J J (Zd J J ?_)
       rcases Zi h35 with ⟨rfl, g35⟩ | ⟨rfl, g35⟩
       ·skip
        refine Zk 37 J J J J J (Zk 38 J J J J J (Zk 39 J J J J J (Yk 40 J J J J J (Yk 41 J J J J J (Zk 42 J J J J J ?_)))))
        refine Zl 43 J J J J J (Zn J J J (Za 44 J J J (Zn J J J (Za 4 J J J (Ze J J (Vp (Ua J ?_ by5 by3)))))))
        clear HN H1 H2 H3; first | (simp_all; done) | grind
       ·skip
        refine Zl 37 J J J J J (Zd J J (Zl 38 J J J J J (Yr J J J ?_))); intro c38 h38
        refine Zl 39 J J J J J (Zd J J ?_)
        rcases Zi h38 with ⟨rfl, g38⟩ | ⟨rfl, g38⟩
        ·skip
         refine Zl 40 J J J J J (Zd J J (Zl 41 J J J J J (op_callkb (xs := [.tmp 40, .const (.string ⟨#[99, 97, 115, 101]⟩)]) [0] J J J (H3) by1 ?_))); intro c41 h41
         refine Zl 42 J J J J J (Zn J J J (Zl 43 J J J J J (Zn J J J (Za 44 J J J (Zn J J J (Za 4 J J J (Ze J J (Vp (Ua J ?_ by5 by3)))))))))
         clear HN H1 H2 H3; first | (simp_all; done) | grind
        ·skip
         refine Zk 40 J J J J J (Zk 41 J J J J J (Zl 42 J J J J J (Zn J J J (Zl 43 J J J J J (Zn J J J (Za 44 J J J (Zn J J J (Za 4 J J J (Ze J J ?_)))))))))
         refine Vp (Ua J ?_ by5 by3)
         clear HN H1 H2 H3; first | (simp_all; done) | grind
      ·skip
       refine Zk 34 J J J J J (Zk 35 J J J J J (Zk 36 J J J J J (Yk 37 J J J J J (Yk 38 J J J J J (Yk 39 J J J J J ?_)))))
       refine Yk 40 J J J J J (Yk 41 J J J J J (Yk 42 J J J J J (Zk 43 J J J J J (Za 44 J J J (Zn J J J (Za 4 J J J (Ze J J ?_)))))))
       refine Vp (Ua J ?_ by5 by3)
       clear HN H1 H2 H3; first | (simp_all; done) | grind
    ·skip
     refine Zk 26 J J J J J (Zk 27 J J J J J (Zk 28 J J J J J (Yk 29 J J J J J (Yk 30 J J J J J (Zk 31 J J J J J ?_)))))
     refine Za 32 J J J (Zn J J J (Za 33 J J J (Zd J J (Zk 34 J J J J J (Zk 35 J J J J J (Zk 36 J J J J J (Yk 37 J J J J J ?_)))))))
     refine Yk 38 J J J J J (Yk 39 J J J J J (Yk 40 J J J J J (Yk 41 J J J J J (Yk 42 J J J J J (Zk 43 J J J J J ?_)))))
     refine Za 44 J J J (Zn J J J (Za 4 J J J (Ze J J (Vp (Ua J ?_ by5 by3)))))
     clear HN H1 H2 H3; first | (simp_all; done) | grind
  intro c4 h4
  refine Zb (Ya ?_)
  exact Yh J J (Vw _) (Vq _) ⟨⟨_, by clear HN H1 H2 H3; grind, J⟩, J⟩
 ·refine Zt J (Zg (Zc (Za 4 J J J (Ze J J (Vp (Zb (Ya ?_)))))))
  exact Yh J J (Vw _) (Vq _) ⟨⟨_, by clear HN H1 H2 H3; grind, J⟩, J⟩
theorem typesL_go {L : List Tok} {T : PS → Ty × PS} {f : Nat} {p : PS} {acc : List Ty} (h : startsP L 0 p) : typesL L T (f + 1) p acc = typesL L T f (atypeG L T p).2 (acc ++ [(atypeG L T p).1]) := by rw [typesL, if_pos h]
theorem typesL_end {L : List Tok} {T : PS → Ty × PS} {f : Nat} {p : PS} {acc : List Ty} (h : ¬ startsP L 0 p) : typesL L T f p acc = (acc, p) := by
 cases f with
 | zero => rfl
 | succ f => rw [typesL, if_neg h]
abbrev zTyp : List AV := [.val (.int .i64 0), .val (.string kE), .val (.int .i64 0), .val (.slice none 0 0)]
def TyC (b : Nat) (L : List Tok) (n : Nat) (T : PS → Ty × PS) : Prop := ∀ q, POk L n q → MCall Tryz.prog 85 [.ptr b 0] (.loc b (psC L q)) (.agg (T q).1.cells) (.loc b (psC L (T q).2))
set_option maxHeartbeats 4000000 in
set_option maxRecDepth 100000 in
theorem atype_c (b : Nat) (L : List Tok) (hL : L.length ≤ 100000) (n : Nat) (T : PS → Ty × PS) (HT : TyC b L n T) (HA : ∀ q, POk L n q → Adv L q (T q).2) (p : PS) (k : POk L n p) : MCall Tryz.prog 82 [.ptr b 0] (.loc b (psC L p)) (.agg (atypeG L T p).1.cells) (.loc b (psC L (atypeG L T p).2)) := by
 have HN := next_c b L p
 have hp := k.1
 have a1 := Yn (L := L) (kind := 7) (s := kLP) (by decide) k
 have k1 := a1.ok k
 obtain ⟨t, ht⟩ : ∃ t, nxt L p = t := ⟨_, rfl⟩
 obtain ⟨r, hr⟩ : ∃ r, atypeG L T p = r := ⟨_, rfl⟩
 have hr0 := hr
 unfold atypeG at hr
 rw [ht] at HN hr
 rw [hr0]
 obtain ⟨tk, tt, tn, ta⟩ := t
 simp only [Tok.av] at HN hr
 refine Zw Tryz.func82 J (by kernel_rfl) J (Uc J) ?_
 refine Ye (Zg (Zc (Za 2 J J J (Zy (cs' := [_, _, _, _]) J tz_25 J J ?_)))); intro b2
 refine Vp (Zb (Zg (Zc (Za 5 J J J (Zd J J (Za 6 J J J (Wq (xs := [.tmp 5]) [1] J J J (HN) by1 ?_)))))))
 refine Za 3 J J J (Zy (cs' := [_, _, _, _]) J Wf J J ?_); intro b3
 refine Zs J J (Zo (cs' := [_, _, _, _]) (i := 0) J Xk J J J J J (Uc J) J (Vp (Zb (Zg (Zg (Zc (Za 7 J J J (Zh J Xf J (Za 8 J J J (Zq (i := 0) J Xb J J J (Za 9 J J J (Yr J J J ?_)))))))))))); intro c9 h9
 refine Vp (Zb ?_)
 rcases Zi h9 with ⟨rfl, g9⟩ | ⟨rfl, g9⟩
 ·refine Zr J (Zv (Zb (Zg (Zg (Zc (Za 20 J J J (Zh J Xf J (Za 21 J J J (Zq (i := 0) J Xb J J J (Za 22 J J J (Yr J J J ?_))))))))))); intro c22 h22
  refine Vp (Zb ?_)
  rcases Zi h22 with ⟨rfl, g22⟩ | ⟨rfl, g22⟩
  ·refine Zr J (Zv (Zb (Zg (Zc (Za 33 J J J (Zd J J (Za 34 J J J (Yg (xs := [.tmp 33, .const (.int .i64 7), .const (.string ⟨#[40]⟩)]) (i := 2) J J J (take_c b L hL p k.1 7 kLP) by1 ?_))))))))
   refine Vp (Zb (Zg (Zg (Zc (Za 35 J J J (Zd J J (Za 36 J J J (op_mayc (xs := [.tmp 35, .const (.string ⟨#[41]⟩)]) (i := 2) J J J (may_c b L hL (takeP L p 7 kLP).2 kRP) by1 ?_ ?_))))))))
   ·intro g36
    refine Vp (Zb (Zt J (Zg (Zc (Za 37 J J J (Ym (ns := [0, 1]) (xs := [.const (.int .i64 3), .const (.string ⟨#[85, 110, 105, 116]⟩)]) J tz_25 J tfl_25 J J J J ?_))))))
    refine Zs J J (Zo (cs' := [_, _, _, _]) (i := 1) J ts_25 J J J J J (Uc J) J (Vp (Zb (Ya ?_))))
    rw [if_neg g9, if_neg g22, if_pos g36] at hr; subst hr; exact Yl (i := 1) rfl rfl rfl Xx rfl by2 (Vt _ (Vt _ (Vv rfl))) ⟨rfl, rfl⟩
   ·intro g36
    refine Vp (Zb (Zr J (Zv (Zb (Zg ?_)))))
    have HT1 := HT _ k1
    have k2 := (HA _ k1).ok k1
    rw [if_neg g9, if_neg g22, if_neg g36] at hr
    obtain ⟨⟨⟨xk, xs, xn, xl⟩, p3⟩, hx⟩ : ∃ r, T (takeP L p 7 kLP).2 = r := ⟨_, rfl⟩
    rw [hx] at HT1 hr k2
    simp only [Ty.cells] at HT1
    refine Zc (Za 38 J J J (Zd J J (Za 39 J J J (Yg (xs := [.tmp 38]) (i := 2) J J J (HT1) by1 ?_))))
    refine Za 4 J J J (Zy (cs' := [_, _, _, _]) J tz_25 J J ?_); intro b4
    refine Zs J J (Zo (cs' := [_, _, _, _]) (i := 0) J ts_25 J J J J J (Uc J) J (Vp (Zb (Zg (Zc (Za 40 J J J (Zd J J (Za 41 J J J (Yg (xs := [.tmp 40, .const (.int .i64 7), .const (.string ⟨#[41]⟩)]) (i := 3) J J J (take_c b L hL _ k2.1 7 kRP) by1 ?_)))))))))
    refine Vp (Zb (Zg (Zc (Za 42 J J J (Zx (cs' := [_, _, _, _]) (i := 0) J Xx J J J J (Zs J J (Zo (cs' := [_, _, _, _]) (i := 2) J ts_25 J J J J J (Uc J) J (Vp (Zb (Ya ?_))))))))))
    subst hr; exact Yl (i := 2) rfl rfl rfl Xx rfl (Vw _) (Vt _ (Vt _ (Vt _ (Vv rfl)))) ⟨rfl, rfl⟩
  ·refine Zt J (Zg (Zc (Za 23 J J J (Zd J J (Za 24 J J J (Yj J J (Za 25 J J J (Zh J tf_95_1 J (Za 26 J J J (Zq (i := 2) J Xb J J J (Za 27 J J J (Yw J J J (Ug _ (by omega)) ?_))))))))))))
   refine Za 28 J J J (Yj J J (Za 29 J J J (Zh J tf_95_1 J (Zs J J (Zo (i := 2) J Wi J J J J J (Uc J) J (Vp (Zb (Zg (Zc (Za 30 J J J (Zh J Xh J (Za 31 J J J (Zq (i := 0) J Yz J J J ?_)))))))))))))
   refine Za 32 J J J (Ym (ns := [0, 1]) (xs := [.const (.int .i64 1), .tmp 31]) J tz_25 J tfl_25 J J J J (Zs J J (Zo (cs' := [_, _, _, _]) (i := 1) J ts_25 J J J J J (Uc J) J (Vp (Zb (Ya ?_))))))
   rw [if_neg g9, if_pos g22] at hr; subst hr; exact Yl (i := 1) rfl rfl rfl Xx rfl by2 (Vt _ (Vt _ (Vv rfl))) ⟨rfl, rfl⟩
 ·refine Zt J (Zg (Zc (Za 10 J J J (Zd J J (Za 11 J J J (Yj J J (Za 12 J J J (Zh J tf_95_1 J (Za 13 J J J (Zq (i := 2) J Xb J J J (Za 14 J J J (Yw J J J (Ug _ (by omega)) ?_))))))))))))
  refine Za 15 J J J (Yj J J (Za 16 J J J (Zh J tf_95_1 J (Zs J J (Zo (i := 2) J Wi J J J J J (Uc J) J (Vp (Zb (Zg (Zc (Za 17 J J J (Zh J Xh J (Za 18 J J J (Zq (i := 0) J Yz J J J ?_)))))))))))))
  refine Za 19 J J J (Ym (ns := [0, 1]) (xs := [.const (.int .i64 3), .tmp 18]) J tz_25 J tfl_25 J J J J (Zs J J (Zo (cs' := [_, _, _, _]) (i := 1) J ts_25 J J J J J (Uc J) J (Vp (Zb (Ya ?_))))))
  rw [if_pos g9] at hr; subst hr; exact Yl (i := 1) rfl rfl rfl Xx rfl by2 (Vt _ (Vt _ (Vv rfl))) ⟨rfl, rfl⟩
set_option maxHeartbeats 4000000 in
set_option maxRecDepth 100000 in
theorem Type_err (b : Nat) (L : List Tok) (p : PS) (he : p.e ≠ 0) : MCall Tryz.prog 85 [.ptr b 0] (.loc b (psC L p)) (.agg ty0.cells) (.loc b (psC L p)) := by
 refine Zw Tryz.func85 J (by kernel_rfl) J (Uc J) ?_
 refine Ye (Zg (Zc (Za 2 J J J (Zy (cs' := [_, _, _, _]) J tz_25 J J ?_)))); intro b2
 refine Vp (Zb (Zg (Zg (Zc (Za 5 J J J (Zd J J (Za 6 J J J (Yj J J (Za 7 J J J (Zh J Vl J (Za 8 J J J (Zq (i := 1) J Xb J J J (Za 9 J J J (Xq J J J ?_)))))))))))))); intro c9 h9
 refine Vp (Zb ?_)
 rcases Zi h9 with ⟨rfl, g9⟩ | ⟨rfl, g9⟩
 ·exact absurd he g9
 ·exact Zt J (Zg (Zc (Za 10 J J J (Ym (ns := []) (xs := []) J tz_25 J tfl_25 J J J J (Zs J J (Zo (cs' := [_, _, _, _]) (i := 0) J ts_25 J J J J J (Uc J) J (Vp (Zb (Ya (Yl (i := 0) J J J Xx J by2 (Vt _ (Vq _)) ⟨J, J⟩))))))))))
set_option maxHeartbeats 4000000 in
set_option maxRecDepth 100000 in
theorem Type_ok (b : Nat) (L : List Tok) (hL : L.length ≤ 100000) (n : Nat) (T : PS → Ty × PS) (HT : TyC b L n T) (HA : ∀ q, POk L n q → Adv L q (T q).2) (p : PS) (k : POk L (n + 1) p) (he : p.e = 0) : MCall Tryz.prog 85 [.ptr b 0] (.loc b (psC L p)) (.agg (typeR L T (typeH L T (deeperP L p))).1.cells) (.loc b (psC L (typeR L T (typeH L T (deeperP L p))).2)) := by
 have kq := deeper_ok k he
 have HN := next_c b L (deeperP L p)
 have hq0 := kq.1
 have aH := typeH_adv HA kq
 have kH := aH.ok kq
 obtain ⟨t, ht⟩ : ∃ t, nxt L (deeperP L p) = t := ⟨_, rfl⟩
 have hkt : (nxt L (deeperP L p)).k = 2 → (deeperP L p).at_ < L.length := fun e => (Vo (by omega)).2
 have HAT := atype_c b L hL n T HT HA (deeperP L p) kq
 obtain ⟨⟨⟨xk, xs, xn, xl⟩, q1⟩, hx⟩ : ∃ r, typeH L T (deeperP L p) = r := ⟨_, rfl⟩
 have hx0 := hx
 unfold typeH at hx
 rw [hx0] at kH ⊢
 simp only [] at kH
 obtain ⟨r, hr⟩ : ∃ r, typeR L T (Ty.mk xk xs xn xl, q1) = r := ⟨_, rfl⟩
 rw [hr]
 unfold typeR at hr
 simp only [] at hr
 rw [ht] at HN hx hkt
 obtain ⟨tk, tt, tn, ta⟩ := t
 simp only [Tok.av] at HN hx hkt
 refine Zw Tryz.func85 J (by kernel_rfl) J (Uc J) ?_
 refine Ye (Zg (Zc (Za 2 J J J (Zy (cs' := [_, _, _, _]) J tz_25 J J ?_)))); intro b2
 refine Vp (Zb (Zg (Zg (Zc (Za 5 J J J (Zd J J (Za 6 J J J (Yj J J (Za 7 J J J (Zh J Vl J (Za 8 J J J (Zq (i := 1) J Xb J J J (Za 9 J J J (Xq J J J ?_)))))))))))))); intro c9 h9
 refine Vp (Zb ?_)
 rcases Zi h9 with ⟨rfl, g9⟩ | ⟨rfl, g9⟩
 ·refine Zr J (Zv (Zb (Zg (Zc (Za 11 J J J (Zd J J ?_))))))
  refine Za 12 J J J (Yg (xs := [.tmp 11]) (i := 1) J J J (deeper_c b L p k.2.1 (by have := k.2.2.1; omega)) by1 ?_)
  refine Vp (Zb (Zg (Zc (Za 13 J J J (Zd J J (Za 14 J J J (Wq (xs := [.tmp 13]) [1] J J J (HN) by1 ?_)))))))
  refine Za 3 J J J (Zy (cs' := [_, _, _, _]) J Wf J J ?_); intro b3
  refine Zs J J (Zo (cs' := [_, _, _, _]) (i := 0) J Xk J J J J J (Uc J) J (Vp (Zb (Zg (Zc (Za 15 J J J (Ym (ns := []) (xs := []) J tz_25 J tfl_25 J J J J (Za 4 J J J (Zy (cs' := [_, _, _, _]) J tz_25 J J ?_))))))))); intro b4
  refine Zs J J (Zo (cs' := [_, _, _, _]) (i := 0) J ts_25 J J J J J (Uc J) J (Vp (Zb (Zg (Zg (Zc (Za 16 J J J (Zh J Xf J (Za 17 J J J (Zq (i := 1) J Xb J J J (Za 18 J J J (Yr J J J ?_)))))))))))); intro c18 h18
  refine Vp (Zb ?_)
  apply c_joink [1, 3, 5, 6, 7, 8, 9, 10, 11, 12, 13, 14, 15, 16, 17, 18, 19, 20, 21, 22, 23, 24, 25, 26, 27, 28, 29, 30, 31, 32, 33, 34, 35, 36, 37, 38, 39] (σ := Unit) (fun zz => match zz with | z => []) (fun zz => match zz with | z => [.loc b4 (Ty.mk xk xs xn xl).cells, .loc b3 (Tok.mk tk tt tn ta).av, .loc b2 zTyp, .loc b (psC L q1)]) (fun zz => match zz with | z => True)
  ·repeat' (first | exact Uf | apply Ud rfl | apply Ue rfl)
  ·skip
   rcases Zi h18 with ⟨rfl, g18⟩ | ⟨rfl, g18⟩
   ·refine Zr J ?_
    rw [if_neg g18] at hx
    rw [hx] at HAT
    simp only [Ty.cells] at HAT
    refine Zc (Za 38 J J J (Zd J J (Za 39 J J J (Yg (xs := [.tmp 38]) (i := 3) J J J (HAT) by1 ?_))))
    refine Zs J J (Zo (cs' := [_, _, _, _]) (i := 0) J ts_25 J J J J J (Uc J) J (Vp (Xa ?_)))
    first | exact ⟨(), trivial, by4, Vv rfl⟩ | (rw [typesL_end g30] at hu; cases hu; exact ⟨(), trivial, by4, Vu _ (Vy (Vw _) (Vy (Vw _) (Vy (Vw _) (Vy (Le.own _ _ _) (Vx _))))) (Vs _ (Vs _ (Vs _ (Vr _))))⟩)
   ·refine Zt J (Zg ?_)
    rw [if_pos g18] at hx
    have hlt := hkt g18
    have ks := Vf kq hlt
    refine Zc (Za 19 J J J (Zd J J (Za 20 J J J (Yj J J (Za 21 J J J (Zh J tf_95_1 J (Za 22 J J J (Zq (i := 3) J Xb J J J (Za 23 J J J (Yw J J J (Ug _ (by omega)) ?_))))))))))
    refine Za 24 J J J (Yj J J (Za 25 J J J (Zh J tf_95_1 J (Zs J J (Zo (i := 3) J Wi J J J J J (Uc J) J (Vp (Zb (Zg (Zc (Za 26 J J J (Zh J Xh J (Za 27 J J J (Zq (i := 1) J Yz J J J ?_)))))))))))))
    refine Za 28 J J J (Ym (ns := [0, 1]) (xs := [.const (.int .i64 3), .tmp 27]) J tz_25 J tfl_25 J J J J (Zs J J (Zo (cs' := [_, _, _, _]) (i := 0) J ts_25 J J J J J (Uc J) J (Vp (Zb (Zz (We 25 4 ?_)))))))
    apply Wg [1, 3, 5, 6, 7, 8, 9, 10, 11, 12, 13, 14, 15, 16, 17, 18, 19, 20, 21, 22, 23, 24, 26, 27, 28, 29, 30, 31, 32, 33, 34, 35, 36, 37, 38, 39] (σ := PS × Nat × List Ty × Value) (fun zz => match zz with | (q, f, acc, u) => []) (fun zz => match zz with | (q, f, acc, u) => [.loc b4 [.val (.int .i64 3), .val (.string tt), .val (.int .i64 0), .own u 4 (Ty.cellss acc)], .loc b3 (Tok.mk tk tt tn ta).av, .loc b2 zTyp, .loc b (psC L q), .own 25 4 u]) (fun zz => match zz with | (q, f, acc, u) => POk L n q ∧ L.length - q.at_ < f ∧ acc.length ≤ q.at_ ∧ (Ty.mk 3 tt 0 (typesL L T f q acc).1, (typesL L T f q acc).2) = ((Ty.mk xk xs xn xl), q1)) (fun zz => match zz with | (q, f, acc, u) => f) ((stepP (deeperP L p), L.length + 1, [], .slice none 0 0))
    ·repeat' (first | exact Uf | apply Ud rfl | apply Ue rfl)
    ·exact ⟨ks.ok kq, by omega, Nat.zero_le _, hx⟩
    ·exact by4
    ·exact (Vu _ (Vy (Vw _) (Vy (Vw _) (Vy (Vw _) (Vy (Le.nilOwn 4) (Vx _))))) (Vs _ (Vs _ (Vv J))))
    rintro ⟨q, f, acc, u⟩ hI
    try dsimp only [List.cons_append, List.nil_append] at hI ⊢
    obtain ⟨h1, h2, h3, hu⟩ := hI
    have hq1 := h1.1
    have hle : (Ty.cellss acc).length ≤ 200000 := by rw [Ty.cellss_len]; omega
    refine Zg (Zg (Zc (Za 29 J J J (Zd J J (Za 30 J J J (op_callkb (xs := [.tmp 29, .const (.int .i64 0)]) [3] J J J (starts_c b L q 0) by1 ?_)))))); intro c30 h30
    refine Vp (Zb ?_)
    rcases Zi h30 with ⟨rfl, g30⟩ | ⟨rfl, g30⟩
    ·refine Zr J (Xc (Xd (Xv (Xe (Xa ?_)))))
     first | exact ⟨(), trivial, by4, Vv rfl⟩ | (rw [typesL_end g30] at hu; cases hu; exact ⟨(), trivial, by4, Vu _ (Vy (Vw _) (Vy (Vw _) (Vy (Vw _) (Vy (Le.own _ _ _) (Vx _))))) (Vs _ (Vs _ (Vs _ (Vr _))))⟩)
    ·refine Zt J (Zv (Zb (Zz ?_)))
     obtain ⟨f, rfl⟩ : ∃ f', f = f' + 1 := ⟨f - 1, by omega⟩
     rw [typesL_go g30] at hu
     have b1 := atype_lt HA h1 g30
     have b2 := atype_adv HA h1
     have l2 := b2.ok h1
     have HA2 := atype_c b L hL n T HT HA q h1
     obtain ⟨⟨⟨yk, ys, yn, yl⟩, q2⟩, e2⟩ : ∃ r, atypeG L T q = r := ⟨_, rfl⟩
     rw [e2] at HA2 hu l2 b1
     simp only [Ty.cells] at HA2
     simp only [] at b1 l2
     have l3 := l2.1
     refine Xw [0, 1, 2, 3, 4, 5, 6, 7] [3, 5, 7] [[], [0], [], [2], [2, 3], [0, 1, 2, 3, 4], [0, 1, 2, 3, 4, 5], [0, 1, 2, 3, 4, 5, 6]] Wr J (Yb 31 (none) (i := 0) J J J J J (Zh J Wc J ⟨J, J⟩) ?_)
     refine Yb 32 (some 0) (i := 1) J J J J J (Zq (i := 0) J Ve J J J ⟨J, J⟩) ?_
     refine Yb 33 (none) (i := 2) J J J J J (Zd J J ⟨J, J⟩) ?_
     refine Xn 3 (i := 3) J J J J J (Yg (xs := [.tmp 33]) (i := 0) J J J (HA2) by1 ⟨_, J, ?_⟩)
     refine Yb 35 (none) (i := 4) J J J J J (Yi (xs := [.tmp 34]) el_23 J J J J J J (Uc J) ⟨J, J⟩) ?_
     refine Xn 4 (i := 5) J J J J J (Xj (i := 0) el_23 J J J J (.seq _ _) by6 (fun u36 => ⟨_, J, ?_⟩))
     refine Yb 37 (none) (i := 6) J J J J J (Zh J Wc J ⟨J, J⟩) ?_
     refine Xn 0 (i := 7) J J J J J (Zo (cs' := [_, _, _, _]) (i := 0) J ts_23 J J J J J (Uc J) J ⟨_, J, ?_⟩)
     show AGo _ _ _ _ _ _ _
     refine Yv (Xa ?_)
     refine ⟨(q2, f, acc ++ [Ty.mk yk ys yn yl], u36), ⟨l2, (by show L.length - q2.at_ < f; omega), (by show (acc ++ [Ty.mk yk ys yn yl]).length ≤ q2.at_; rw [List.length_append]; simp; omega), hu⟩, Nat.lt_succ_self f, by4, (Vu _ (Vy (Vw _) (Vy (Vw _) (Vy (Vw _) (Vy (Ub (by rw [Ty.cellss_app]; rfl)) (Vx _))))) (Vs _ (Vs _ (Vv J))))⟩
  rintro z hI
  try dsimp only [List.cons_append, List.nil_append] at hI ⊢
  refine Zb (Zg (Zg (Zc (Za 40 J J J (Zd J J (Za 41 J J J (op_mayc (xs := [.tmp 40, .const (.string ⟨#[45, 62]⟩)]) (i := 3) J J J (may_c b L hL q1 kArrow) by1 ?_ ?_)))))))
  ·intro g41
   refine Vp (Zb (Zt J ?_))
   have ka := Xo kH g41
   have kz := ka.ok kH
   have HT1 := HT _ kz
   have kw := (HA _ kz).ok kz
   obtain ⟨⟨⟨zk, zs, zn, zl⟩, q3⟩, e3⟩ : ∃ r, T (stepP q1) = r := ⟨_, rfl⟩
   rw [if_pos g41, e3] at hr
   rw [e3] at HT1 kw
   simp only [Ty.cells] at HT1
   simp only [] at kw
   have hb3 := kw.2.1
   have hb4 := kw.2.2.1
   refine Xw [0, 1, 2, 3, 4, 5] [2, 5] [[], [], [1], [0, 1, 2], [0, 1, 2, 3], [0, 1, 2, 3, 4]] Wr J (Yb 42 (some 0) (i := 0) J J J J J (Zx (cs' := [_, _, _, _]) (i := 0) J Xx J J J J ⟨J, J⟩) ?_)
   refine Yb 43 (none) (i := 1) J J J J J (Zd J J ⟨J, J⟩) ?_
   refine Xn 3 (i := 2) J J J J J (Yg (xs := [.tmp 43]) (i := 0) J J J (HT1) by1 ⟨_, J, ?_⟩)
   refine Yb 45 (none) (i := 3) J J J J J (Yi (xs := [.tmp 42, .tmp 44]) el_23 J J J J J J (Uc J) ⟨J, J⟩) ?_
   refine Yb 46 (none) (i := 4) J J J J J (Ym (ns := [0, 1, 3]) (xs := [.const (.int .i64 3), .const (.string ⟨#[45, 62]⟩), .tmp 45]) J tz_25 J tfl_25 J J J J ⟨J, J⟩) ?_
   refine Xn 0 (i := 5) J J J J J (Zo (cs' := [_, _, _, _]) (i := 0) J ts_25 J J J J J (Uc J) J ⟨_, J, ?_⟩)
   show AGo _ _ _ _ _ _ _
   refine Zb (Zg ?_)
   have hb1 := kH.2.1
   have hb2 := kH.2.2.1
   refine Zc (Za 47 J J J (Zd J J (Za 48 J J J (Yj J J (Za 49 J J J (Zh J tf_95_2 J (Za 50 J J J (Zq (i := 3) J Xb J J J (Za 51 J J J (op_sub J J J (Ug _ (by omega)) ?_))))))))))
   refine Za 52 J J J (Yj J J (Za 53 J J J (Zh J tf_95_2 J (Zs J J (Zo (i := 3) J Wi J J J J J (Uc J) J (Vp (Zb (Zg (Zc (Za 54 J J J (Zx (cs' := [_, _, _, _]) (i := 0) J Xx J J J J (Zs J J (Zo (cs' := [_, _, _, _]) (i := 2) J ts_25 J J J J J (Uc J) J ?_)))))))))))))
   refine Vp (Zb (Ya ?_))
   subst hr; exact Yl (i := 2) rfl rfl rfl Xx rfl (Vw _) (Vt _ (Vt _ (Vt _ (Vv rfl)))) ⟨rfl, rfl⟩
  ·intro g41
   refine Vp (Zb (Zr J (Zv (Zb (Zg ?_)))))
   have hb1 := kH.2.1
   have hb2 := kH.2.2.1
   refine Zc (Za 47 J J J (Zd J J (Za 48 J J J (Yj J J (Za 49 J J J (Zh J tf_95_2 J (Za 50 J J J (Zq (i := 3) J Xb J J J (Za 51 J J J (op_sub J J J (Ug _ (by omega)) ?_))))))))))
   refine Za 52 J J J (Yj J J (Za 53 J J J (Zh J tf_95_2 J (Zs J J (Zo (i := 3) J Wi J J J J J (Uc J) J (Vp (Zb (Zg (Zc (Za 54 J J J (Zx (cs' := [_, _, _, _]) (i := 0) J Xx J J J J (Zs J J (Zo (cs' := [_, _, _, _]) (i := 2) J ts_25 J J J J J (Uc J) J ?_)))))))))))))
   refine Vp (Zb (Ya ?_))
   rw [if_neg g41] at hr; subst hr; exact Yl (i := 2) rfl rfl rfl Xx rfl (Vw _) (Vt _ (Vt _ (Vt _ (Vv rfl)))) ⟨rfl, rfl⟩
 ·exact absurd he g9
theorem Type_c (b : Nat) (L : List Tok) (hL : L.length ≤ 100000) : ∀ n, TyC b L n (typeF L n)
 | 0, p, k => Type_err b L p (fun e => by have := k.2.2.2 e; omega)
 | n + 1, p, k => by
  by_cases he : p.e = 0
  ·have h := Type_ok b L hL n (typeF L n) (Type_c b L hL n) (typeF_adv n) p k he
   rw [typeF, if_neg (by rw [he]; simp)]
   exact h
  ·rw [typeF, if_pos he]; exact Type_err b L p he
theorem typeP_c (b : Nat) (L : List Tok) (hL : L.length ≤ 100000) (n : Nat) (p : PS) (k : POk L n p) : MCall Tryz.prog 85 [.ptr b 0] (.loc b (psC L p)) (.agg (typeP L p).1.cells) (.loc b (psC L (typeP L p).2)) := Type_c b L hL 302 p (k.up (by decide))
end Go.Proofs.YtknodnfbaofngaaGreat
