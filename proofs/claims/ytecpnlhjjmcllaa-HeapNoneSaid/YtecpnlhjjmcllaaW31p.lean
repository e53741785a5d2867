/- (*heap.space).put: a space grows by a head and parts. -/
import Derived.Test.YtecpnlhjjmcllaaW02p
import Derived.Test.YtecpnlhjjmcllaaMEM
import Derived.Deep.CutBlock
import Derived.Deep.DeepCutAuto
import Derived.Deep.Heap
import Derived.Deep.LoopGhost
import Derived.Deep.QuietTactic
import Derived.BigQuiet
import Derived.WalkLawsBesides
import Derived.WalkSpells
namespace Go.Proofs.Ytecpnlhjjmcllaa
open Go.RowKit
theorem elemU64 : ElemT Try.prog 34 42 (.int .u64 0) 1 8 := ⟨by kernel_rfl, by kernel_rfl, rfl, by decide, by decide⟩
theorem elemBool : ElemT Try.prog 75 4 (.bool false) 1 1 := ⟨by kernel_rfl, by kernel_rfl, rfl, by decide, by decide⟩
def bools (l : List Bool) : List Value := l.map Value.bool
/-- a block of cells, none of them frozen -/
def Blk (w : World) (p : Nat) (arr : Array Value) (T : TypeId) : Prop := w.heap[p]? = some (.cells arr T)
theorem Blk.cell {w : World} {p : Nat} {arr : Array Value} {T : TypeId} (h : Blk w p arr T) (k : Nat) : w.cell? ⟨p, k, none⟩ = arr[k]? := by
  unfold Blk at h
  simp [World.cell?, h]
theorem Blk.frozen {w : World} {p : Nat} {arr : Array Value} {T : TypeId} (h : Blk w p arr T) (k : Nat) : w.frozen? ⟨p, k, none⟩ = false := by
  unfold Blk at h
  simp [World.frozen?, h]
theorem Blk.lt {w : World} {p : Nat} {arr : Array Value} {T : TypeId} (h : Blk w p arr T) : p < w.heap.size := by
  unfold Blk at h
  rcases Nat.lt_or_ge p w.heap.size with k | k
  · exact k
  · rw [Array.getElem?_eq_none k] at h; simp at h
theorem Blk.set {w : World} {p : Nat} {arr : Array Value} {T : TypeId} (h : Blk w p arr T) (k : Nat) (v : Value) : Blk (w.setCell ⟨p, k, none⟩ v) p (arr.setIfInBounds k v) T := by
  unfold Blk at h ⊢
  simp [World.setCell, Array.getElem?_modify, h]
/-- a value's block is another's, or new -/
def NewOf (n : Nat) (v v' : Value) : Prop := v'.ownBlock = v.ownBlock ∨ ∃ k, n ≤ k ∧ v'.ownBlock = some k
theorem NewOf.refl (n : Nat) (v : Value) : NewOf n v v := Or.inl rfl
theorem NewOf.grow {n : Nat} {v v1 v2 : Value} {w : World} (h : NewOf n v v1) (hg : v2.ownBlock = v1.ownBlock ∨ v2.ownBlock = some w.heap.size) (hn : n ≤ w.heap.size) : NewOf n v v2 := by
  rcases hg with e | e
  · unfold NewOf; rw [e]; exact h
  · exact Or.inr ⟨_, hn, e⟩
theorem NewOf.ne {n b : Nat} {v v' : Value} (h : NewOf n v v') (hb : b < n) (hv : v.ownBlock ≠ some b) : v'.ownBlock ≠ some b := by
  intro e
  rcases h with h | ⟨k, hk, h⟩
  · exact hv (by rw [← h]; exact e)
  · rw [h] at e; simp at e; omega
/-- of what was there only one block, and those of two values, have turned -/
structure Fr (w w' : World) (p : Nat) (wv bv : Value) : Prop where
  size : w.heap.size ≤ w'.heap.size
  blk : ∀ b, b < w.heap.size → b ≠ p → wv.ownBlock ≠ some b → bv.ownBlock ≠ some b → w'.heap[b]? = w.heap[b]?
theorem Fr.refl (w : World) (p : Nat) (wv bv : Value) : Fr w w p wv bv := ⟨Nat.le_refl _, fun _ _ _ _ _ => rfl⟩
theorem Fr.alloc {w w' : World} {p : Nat} {wv bv : Value} (h : Fr w w' p wv bv) (o : Obj) : Fr w (w'.alloc o) p wv bv :=
  ⟨Nat.le_trans h.size (by simp), fun b h1 h2 h3 h4 => (Below.heap_alloc _ _ _ (Nat.lt_of_lt_of_le h1 h.size)).trans (h.blk b h1 h2 h3 h4)⟩
theorem Fr.set {w w' : World} {p : Nat} {wv bv : Value} (h : Fr w w' p wv bv) (k : Nat) (v : Value) : Fr w (w'.setCell ⟨p, k, none⟩ v) p wv bv :=
  ⟨Nat.le_trans h.size (by simp [World.setCell]), fun b h1 h2 h3 h4 => (Below.heap_setCell _ _ _ _ h2).trans (h.blk b h1 h2 h3 h4)⟩
theorem Fr.growW {w w1 w2 : World} {p : Nat} {wv bv v : Value} (h : Fr w w1 p wv bv) (hv : NewOf w.heap.size wv v) (hg : w1.grownBy w2 v.ownBlock) : Fr w w2 p wv bv :=
  ⟨Nat.le_trans h.size hg.size, fun b h1 h2 h3 h4 => (hg.block b (Nat.lt_of_lt_of_le h1 h.size) (fun e => hv.ne h1 h3 e.symm)).trans (h.blk b h1 h2 h3 h4)⟩
theorem Fr.growB {w w1 w2 : World} {p : Nat} {wv bv v : Value} (h : Fr w w1 p wv bv) (hv : NewOf w.heap.size bv v) (hg : w1.grownBy w2 v.ownBlock) : Fr w w2 p wv bv :=
  ⟨Nat.le_trans h.size hg.size, fun b h1 h2 h3 h4 => (hg.block b (Nat.lt_of_lt_of_le h1 h.size) (fun e => hv.ne h1 h4 e.symm)).trans (h.blk b h1 h2 h3 h4)⟩
theorem Blk.grow {w w' : World} {p : Nat} {arr : Array Value} {T : TypeId} {v : Value} (h : Blk w p arr T) (hg : w.grownBy w' v.ownBlock) (hv : v.ownBlock ≠ some p) : Blk w' p arr T :=
  (hg.block p h.lt (fun e => hv e.symm)).trans h
theorem Blk.alloc {w : World} {p : Nat} {arr : Array Value} {T : TypeId} (h : Blk w p arr T) (o : Obj) : Blk (w.alloc o) p arr T := (Below.heap_alloc _ _ _ h.lt).trans h
theorem own_set {w : World} {base : Nat} {e : TypeId} {m : Nat} {v : Value} {n : Nat} {xs : List Value} (h : w.ownsRow base e m v n xs) (p k : Nat) (u : Value) (hp : v.ownBlock ≠ some p) : (w.setCell ⟨p, k, none⟩ u).ownsRow base e m v n xs := by
  refine ⟨h.1, ?_⟩
  rcases h.2 with ⟨h1, h2⟩ | ⟨g, cap, cur, h1, h2, h3, h4⟩
  · exact Or.inl ⟨h1, h2⟩
  · have hg : g ≠ p := by
      intro e
      apply hp
      rw [h1, e]; rfl
    exact Or.inr ⟨g, cap, cur, h1, h2, (Below.heap_setCell _ _ _ _ hg).trans h3, h4⟩
/-- a space lies in a block -/
structure SpAt (w : World) (base p off : Nat) (arr : Array Value) (T : TypeId) (xs : List Nat) (bs : List Bool) (wv bv : Value) : Prop where
  bk : Blk w p arr T
  cw : arr[off]? = some wv
  cb : arr[off + 1]? = some bv
  ow : w.ownsRow base 42 1 wv xs.length (u64s xs)
  ob : w.ownsRow base 4 1 bv bs.length (bools bs)
  ap : Apart wv bv
  pw : wv.ownBlock ≠ some p
  pb : bv.ownBlock ≠ some p
  bp : base ≤ p
theorem one_u64s (l : List Nat) : ∀ u ∈ u64s l, u.oneCell' = true := by
  intro u hu
  obtain ⟨x, _, rfl⟩ := List.mem_map.1 hu
  rfl
theorem SlAt.src {w : World} {ao : Option Addr} {m cp : Nat} {xs : List Value} (h : SlAt w ao 1 m xs) (hcp : ao = none → cp = 0) : Src w 1 (.slice ao m cp) m xs := by
  have hl := h.1
  rcases ao with _ | ad
  · rcases h.2 with rfl | ⟨b, o, e, _⟩
    · refine Or.inl ⟨by rw [hcp rfl], rfl, ?_⟩
      simpa using hl
    · cases e
  · refine Or.inr ⟨ad, cp, rfl, hl, fun j u hj => ?_⟩
    have hjl : j < xs.length := by
      rcases Nat.lt_or_ge j xs.length with k | k
      · exact k
      · rw [List.getElem?_eq_none k] at hj; simp at hj
    rcases h.2 with rfl | ⟨b, o, e, hc⟩
    · rw [hl] at hjl; simp at hjl
    · cases e
      rw [addr_add, hc j (by rw [← hl]; exact hjl)]; exact hj
theorem SlAt.grow {w w' : World} {ao : Option Addr} {size n : Nat} {xs : List Value} {v : Value} (h : SlAt w ao size n xs) (hg : w.grownBy w' v.ownBlock) (hq : ∀ b o, ao = some ⟨b, o, none⟩ → v.ownBlock ≠ some b) : SlAt w' ao size n xs := by
  refine ⟨h.1, ?_⟩
  rcases h.2 with e | ⟨b, off, e, hc⟩
  · exact Or.inl e
  · refine Or.inr ⟨b, off, e, fun j hj => ?_⟩
    have hx := hc j hj
    have hlt : b < w.heap.size := by
      have hj' : j < xs.length := by rw [h.1]; exact hj
      rw [List.getElem?_eq_getElem hj'] at hx
      exact cell_lt hx
    rw [← hx]
    exact World.cell?_of_block (w := w) (hg.block b hlt (fun k => hq b off e k.symm))
theorem lit_one (w : World) (T : TypeId) (x : Value) (g : Nat) (hg : g = w.heap.size) : ∀ j u, [x][j]? = some u → (w.alloc (.cells #[x] T)).cell? ⟨g, j, none⟩ = some u := by
  subst hg
  intro j u h
  rw [World.cell?_alloc_at _ _ _ _ rfl]
  rcases j with _ | j
  · simpa using h
  · simp at h
theorem size_set (w : World) (a : Addr) (v : Value) : (w.setCell a v).heap.size = w.heap.size := by simp [World.setCell]
def PutRel (w wr : World) (base p off : Nat) (arr : Array Value) (T : TypeId) (xs : List Nat) (bs : List Bool) (wv bv v2 : Value) : Prop :=
  ∃ bv', SpAt wr base p off ((arr.setIfInBounds off v2).setIfInBounds (off + 1) bv') T xs bs v2 bv' ∧ NewOf w.heap.size wv v2 ∧ NewOf w.heap.size bv bv' ∧ Fr w wr p wv bv ∧ Below base w wr
theorem set_two (arr : Array Value) (off : Nat) (a b c : Value) : ((arr.setIfInBounds off a).setIfInBounds (off + 1) b).setIfInBounds (off + 1) c = (arr.setIfInBounds off a).setIfInBounds (off + 1) c := by
  simp
set_option maxHeartbeats 1000000 in
theorem put_c (w : World) (base p off : Nat) (arr : Array Value) (T : TypeId) (xs : List Nat) (bs : List Bool) (wv bv : Value) (S : SpAt w base p off arr T xs bs wv bv) (hd : Nat) (ao : Option Addr) (m cp : Nat) (ps : List Nat) (hp : SlAt w ao 1 m (u64s ps))
    (hcp : ao = none → cp = 0) (hq : ∀ b o, ao = some ⟨b, o, none⟩ → wv.ownBlock ≠ some b) (hbase : base ≤ w.heap.size) (hx : xs.length ≤ 100000000) (hbl : bs.length ≤ 100000000) (hm : m ≤ 100000000) :
    Calls Try.prog 49 #[.pointer (some ⟨p, off, none⟩), .int .u64 (hd : Int), .slice ao m cp] w fun e w' => e = .returned (.int .i64 (xs.length : Int)) ∧ ∃ wv', PutRel w w' base p off arr T (xs ++ hd :: ps) (bs ++ true :: List.replicate m false) wv bv wv' := by
  obtain ⟨aw, ccw, rfl, -⟩ := SlAt.of_own S.ow
  obtain ⟨ab, ccb, rfl, -⟩ := SlAt.of_own S.ob
  have c0 := (S.bk.cell off).trans S.cw
  have HCP := Lib.hid hcp
  have HQ := Lib.hid hq
  clear hcp hq
  have hpl : p < w.heap.size := S.bk.lt
  have h0w := NewOf.refl w.heap.size (.slice aw xs.length ccw)
  have h0b := NewOf.refl w.heap.size (.slice ab bs.length ccb)
  go_enter Try.func49, Try.ntmps49
  go_wp2_with (first
    | (at_builtin; refine wpList_app elemU64 rfl (.tmp 17) (.tmp 19) rfl base base w (.slice aw xs.length ccw) _ _ rfl (S.ow.alloc _) w.heap.size [.int .u64 (hd : Int)] rfl rfl (by simp) (one_int _ _) (by omega) ((Below.refl _ _).alloc hbase _) (Nat.le_refl _) (Nat.le_trans hbase (by simp)) ?_; intro v1 w1 how1 hb1 hg1)
    | (at_builtin; refine wpList_apps elemU64 rfl (.tmp 20) (.tmp 21) rfl base base w v1 _ _ rfl how1 (.slice ao m cp) m (u64s ps) rfl (SlAt.src (SlAt.grow (hp.below ((Below.refl _ _).alloc (Nat.le_refl _) _)) hg1.1 HQ.out) HCP.out) (one_u64s ps) (by omega) hb1 (Nat.le_refl _) (Nat.le_trans hbase hb1.size) ?_; intro v2 w2 how2 hb2 hg2
       obtain ⟨a2, k2, rfl, -⟩ := SlAt.of_own how2
       have n1 : NewOf w.heap.size (.slice aw xs.length ccw) v1 := NewOf.grow (w := w.alloc (.cells #[.int .u64 (hd : Int)] 42)) h0w hg1.2 (by simp)
       have n2 : NewOf w.heap.size (.slice aw xs.length ccw) (.slice a2 (xs.length + 1 + m) k2) := NewOf.grow n1 hg2.2 hb1.size
       have b2 : Blk w2 p arr T := ((S.bk.alloc _).grow hg1.1 S.pw).grow hg2.1 (n1.ne hpl S.pw)
       have d0 : w2.cell? ⟨p, off, none⟩ = some (.slice aw xs.length ccw) := (b2.cell off).trans S.cw
       have d1 : w2.cell? ⟨p, off + 1, none⟩ = some (.slice ab bs.length ccb) := (b2.cell (off + 1)).trans S.cb
       have ob2 : (w2.setCell ⟨p, off, none⟩ (.slice a2 (xs.length + 1 + m) k2)).ownsRow base 4 1 (.slice ab bs.length ccb) bs.length (bools bs) := own_set (Apart.kept (Apart.grow S.ap (S.ob.alloc _) hg1.2) (Apart.kept S.ap (S.ob.alloc _) hg1.1) hg2.1) _ _ _ S.pb
       have d2 : w2.frozen? ⟨p, off, none⟩ = false := b2.frozen off)
    | (at_builtin; go_must (refine wpList_app elemBool rfl (.tmp 29) (.tmp 30) rfl base base w (.slice ab bs.length ccb) _ _ rfl (World.ownsRow.alloc ob2 _) w2.heap.size [.bool true] rfl rfl (lit_one _ _ _ _ (size_set _ _ _).symm) (one_bool _) (by omega) (Below.alloc (hb2.setCell S.bp _) (by rw [size_set]; exact Nat.le_trans hbase hb2.size) _) (Nat.le_refl _) (Nat.le_trans (Nat.le_trans hbase hb2.size) (by simp [World.setCell])) ?_); intro v3 w3 how3 hb3 hg3
       obtain ⟨a3, k3, rfl, -⟩ := SlAt.of_own how3
       have n3 : NewOf w.heap.size (.slice ab bs.length ccb) (.slice a3 (bs.length + 1) k3) := NewOf.grow (w := (w2.setCell ⟨p, off, none⟩ (.slice a2 (xs.length + 1 + m) k2)).alloc (.cells #[.bool true] 4)) h0b hg3.2 (by simp [World.setCell]; exact Nat.le_trans hb2.size (Nat.le_succ _))
       have b3 : Blk w3 p (arr.setIfInBounds off (.slice a2 (xs.length + 1 + m) k2)) T := ((b2.set _ _).alloc _).grow hg3.1 S.pb
       have e1 : w3.cell? ⟨p, off + 1, none⟩ = some (.slice ab bs.length ccb) := (b3.cell (off + 1)).trans (by simpa using S.cb)
       have e2 : w3.frozen? ⟨p, off + 1, none⟩ = false := b3.frozen (off + 1)))
  have A2 : Apart (.slice a2 (xs.length + 1 + m) k2) (.slice ab bs.length ccb) := Apart.grow (Apart.grow S.ap (S.ob.alloc _) hg1.2) (Apart.kept S.ap (S.ob.alloc _) hg1.1) hg2.2
  have o2 : ((w2.setCell ⟨p, off, none⟩ (.slice a2 (xs.length + 1 + m) k2)).alloc (.cells #[.bool true] 4)).ownsRow base 42 1 (.slice a2 (xs.length + 1 + m) k2) (xs.length + 1 + m) (u64s xs ++ [.int .u64 (hd : Int)] ++ u64s ps) := (own_set how2 p off _ (n2.ne hpl S.pw)).alloc _
  have A3 : Apart (.slice a3 (bs.length + 1) k3) (.slice a2 (xs.length + 1 + m) k2) := A2.symm.grow o2 hg3.2
  have o3 := A2.symm.kept o2 hg3.1
  have lps : ps.length = m := by have := hp.len; simpa [u64s] using this
  have l1 : off < arr.size := by
    rcases Nat.lt_or_ge off arr.size with k | k
    · exact k
    · have := S.cw; rw [Array.getElem?_eq_none k] at this; simp at this
  have l2 : off + 1 < arr.size := by
    rcases Nat.lt_or_ge (off + 1) arr.size with k | k
    · exact k
    · have := S.cb; rw [Array.getElem?_eq_none k] at this; simp at this
  have hA : PutRel w (w3.setCell ⟨p, off + 1, none⟩ (.slice a3 (bs.length + 1) k3)) base p off arr T (xs ++ hd :: ps) (bs ++ true :: List.replicate 0 false) (.slice aw xs.length ccw) (.slice ab bs.length ccb) (.slice a2 (xs.length + 1 + m) k2) := by
    refine ⟨.slice a3 (bs.length + 1) k3, ⟨b3.set _ _, by simp [l1], by simp [l2], ?_, ?_, A3.symm, n2.ne hpl S.pw, n3.ne hpl S.pb, S.bp⟩, n2, n3, ((((((Fr.refl w p _ _).alloc _).growW h0w hg1.1).growW n1 hg2.1).set _ _).alloc _ |>.growB h0b hg3.1).set _ _, hb3.setCell S.bp _⟩
    · rw [show (xs ++ hd :: ps).length = xs.length + 1 + m from by simp [lps]; omega, show u64s (xs ++ hd :: ps) = u64s xs ++ [.int .u64 (hd : Int)] ++ u64s ps from by simp [u64s]]
      exact own_set o3 p _ _ (n2.ne hpl S.pw)
    · rw [show (bs ++ true :: List.replicate 0 false).length = bs.length + 1 from by simp, show bools (bs ++ true :: List.replicate 0 false) = bools bs ++ [.bool true] from by simp [bools]]
      exact own_set how3 p _ _ (n3.ne hpl S.pb)
  clear A2 o2 A3 o3 e1 e2 b3 n3 how3 hg3 hb3 d0 d1 d2 ob2 b2 n2 n1 hg2 hg1 how2 how1 hb1 hb2
  go_loopg [36] m (fun gk vi wr => ∃ k : Nat, k ≤ m ∧ gk = m - k ∧ vi = .int .i64 k ∧ PutRel w wr base p off arr T (xs ++ hd :: ps) (bs ++ true :: List.replicate k false) (.slice aw xs.length ccw) (.slice ab bs.length ccb) (.slice a2 (xs.length + 1 + m) k2))
  case atStart => exact ⟨0, Nat.zero_le _, rfl, rfl, hA⟩
  case round =>
    obtain ⟨k, hk, rfl, rfl, hrel⟩ := hrel
    by_cases hkm : k < m
    · have i1 : decide ((k : Int) < (m : Int)) = true := by simp; omega
      obtain ⟨bv, R, r1, r2, r3, r4⟩ := hrel
      obtain ⟨a4, k4, rfl, -⟩ := SlAt.of_own R.ob
      obtain ⟨wo, rfl⟩ : ∃ wo : World, wo = wr := ⟨_, rfl⟩
      have e1 := (R.bk.cell (off + 1)).trans R.cb
      obtain ⟨bl, hbl'⟩ : ∃ bl, bl = (bs ++ true :: List.replicate k false).length := ⟨_, rfl⟩
      have hbb : bl ≤ 1000000000 := by rw [hbl']; simp; omega
      rw [← hbl'] at e1
      have HBL := Lib.hid hbl'
      clear hbl'
      go_wp2_with (first
       | (at_builtin; go_must (refine wpList_app elemBool rfl (.tmp 42) (.tmp 43) rfl base base w (.slice a4 bl k4) bl (bools (bs ++ true :: List.replicate k false)) rfl (by rw [HBL.out]; exact R.ob.alloc _) wo.heap.size [.bool false] rfl rfl (lit_one _ _ _ _ rfl) (one_bool _) (by omega) (r4.alloc (Nat.le_trans hbase r4.size) _) (Nat.le_refl _) (Nat.le_trans (Nat.le_trans hbase r4.size) (by simp)) ?_); intro v5 w5 how5 hb5 hg5
          obtain ⟨a5, k5, rfl, -⟩ := SlAt.of_own how5
          have b5 := (R.bk.alloc _).grow hg5.1 (by rw [HBL.out]; exact R.pb)
          have e5 := (b5.cell (off + 1)).trans R.cb
          have e6 : w5.frozen? ⟨p, off + 1, none⟩ = false := b5.frozen (off + 1)))
      have hh := HBL.out
      subst hh
      go_roundg (m - (k + 1))
      case measure => omega
      case rel =>
        have n5 := r2.grow hg5.2 (by simp; exact Nat.le_trans r4.size (Nat.le_succ _))
        have A5 := R.ap.symm.grow (R.ow.alloc _) hg5.2
        refine ⟨k + 1, by omega, rfl, by go_num, .slice a5 _ k5, ⟨?_, by simp [l1], by simp [l2], own_set (R.ap.symm.kept (R.ow.alloc _) hg5.1) _ _ _ R.pw, ?_, A5.symm, R.pw, n5.ne hpl S.pb, S.bp⟩, r1, n5, ((r3.alloc _).growB r2 hg5.1).set _ _, hb5.setCell S.bp _⟩
        · have := b5.set (off + 1) (.slice a5 ((bs ++ true :: List.replicate k false).length + 1) k5)
          rwa [set_two] at this
        · have := own_set how5 p (off + 1) (.slice a5 ((bs ++ true :: List.replicate k false).length + 1) k5) (n5.ne hpl S.pb)
          rw [show (bs ++ true :: List.replicate (k + 1) false).length = (bs ++ true :: List.replicate k false).length + 1 from by simp; omega, show bools (bs ++ true :: List.replicate (k + 1) false) = bools (bs ++ true :: List.replicate k false) ++ [.bool false] from by simp [bools, List.replicate_succ']]
          exact this
    · have hkk : k = m := by omega
      subst hkk
      go_wp2_with fail
      go_ret
      exact ⟨rfl, _, hrel⟩
end Go.Proofs.Ytecpnlhjjmcllaa
