/- (*Heap).Alloc: an object is put. -/
import Derived.Test.YtecpnlhjjmcllaaW31w
namespace Go.Proofs.Ytecpnlhjjmcllaa
open Go.RowKit
def Hp.put (H : Hp) (hd : Nat) (ps : List Nat) : Hp :=
  if H.now = 0 then { H with x0 := H.x0 ++ hd :: ps, b0 := H.b0 ++ true :: List.replicate ps.length false }
  else { H with x1 := H.x1 ++ hd :: ps, b1 := H.b1 ++ true :: List.replicate ps.length false }
theorem own_fr {w w' : World} {base p : Nat} {e : TypeId} {m : Nat} {a b v : Value} {n : Nat} {xs : List Value} (h : w.ownsRow base e m v n xs) (hf : Fr w w' p a b) (ha : Apart a v) (hb : Apart b v) (hp : v.ownBlock ≠ some p) : w'.ownsRow base e m v n xs := by
  refine ⟨h.1, ?_⟩
  have hlt := own_block_lt h
  rcases h.2 with ⟨h1, h2⟩ | ⟨g, cap, cur, h1, h2, h3, h4⟩
  · exact Or.inl ⟨h1, h2⟩
  · have hv : v.ownBlock = some g := by rw [h1]; rfl
    have ne : ∀ u, Apart u v → u.ownBlock ≠ some g := by
      intro u hu e
      rcases hu with k | k | k
      · rw [k] at e; cases e
      · rw [k] at hv; cases hv
      · exact k (e.trans hv.symm)
    exact Or.inr ⟨g, cap, cur, h1, h2, (hf.blk g (hlt g hv) (fun e => hp (by rw [hv, e])) (ne a ha) (ne b hb)).trans h3, h4⟩
theorem Apart.newOf {w : World} {base : Nat} {e : TypeId} {m : Nat} {a a' v : Value} {n : Nat} {xs : List Value} (h : Apart a v) (hn : NewOf w.heap.size a a') (ho : w.ownsRow base e m v n xs) : Apart a' v := by
  rcases hn with k | ⟨k, hk, e⟩
  · unfold Apart; rw [k]; exact h
  · cases hv : v.ownBlock with
    | none => exact Or.inr (Or.inl hv)
    | some g =>
      have := own_block_lt ho g hv
      exact Or.inr (Or.inr (by rw [e, hv]; intro x; simp at x; omega))
/-- behind a put into the first space -/
theorem HpAt.put0 {w w' : World} {base p : Nat} {H : Hp} {a b c d a' : Value} (h : HpAt w base p H a b c d) (h0 : H.now = 0) (hd : Nat) (ps : List Nat)
    (hr : PutRel w w' base p 1 (arrH H a b c d) 81 (H.x0 ++ hd :: ps) (H.b0 ++ true :: List.replicate ps.length false) a b a') : ∃ b', HpAt w' base p (H.put hd ps) a' b' c d := by
  obtain ⟨b', S, n1, n2, hf, hb⟩ := hr
  have oc := own_fr h.s1.ow hf h.ac h.bc h.s1.pw
  have od := own_fr h.s1.ob hf h.ad h.bd h.s1.pb
  have e : H.put hd ps = { H with x0 := H.x0 ++ hd :: ps, b0 := H.b0 ++ true :: List.replicate ps.length false } := by unfold Hp.put; rw [if_pos h0]
  rw [e]
  exact ⟨b', ⟨S.bk, rfl, rfl, S.ow, S.ob, S.ap, S.pw, S.pb, S.bp⟩, ⟨S.bk, rfl, rfl, oc, od, h.s1.ap, h.s1.pw, h.s1.pb, h.s1.bp⟩, h.ac.newOf n1 h.s1.ow, h.ad.newOf n1 h.s1.ob, h.bc.newOf n2 h.s1.ow, h.bd.newOf n2 h.s1.ob, h.now, h.lo, h.hi⟩
theorem HpAt.put1 {w w' : World} {base p : Nat} {H : Hp} {a b c d c' : Value} (h : HpAt w base p H a b c d) (h0 : H.now = 1) (hd : Nat) (ps : List Nat)
    (hr : PutRel w w' base p 3 (arrH H a b c d) 81 (H.x1 ++ hd :: ps) (H.b1 ++ true :: List.replicate ps.length false) c d c') : ∃ d', HpAt w' base p (H.put hd ps) a b c' d' := by
  obtain ⟨d', S, n1, n2, hf, hb⟩ := hr
  have oc := own_fr h.s0.ow hf h.ac.symm h.ad.symm h.s0.pw
  have od := own_fr h.s0.ob hf h.bc.symm h.bd.symm h.s0.pb
  have e : H.put hd ps = { H with x1 := H.x1 ++ hd :: ps, b1 := H.b1 ++ true :: List.replicate ps.length false } := by unfold Hp.put; rw [if_neg (by omega)]
  rw [e]
  exact ⟨d', ⟨S.bk, rfl, rfl, oc, od, h.s0.ap, h.s0.pw, h.s0.pb, h.s0.bp⟩, ⟨S.bk, rfl, rfl, S.ow, S.ob, S.ap, S.pw, S.pb, S.bp⟩, (h.ac.symm.newOf n1 h.s0.ow).symm, (h.ad.symm.newOf n2 h.s0.ow).symm, (h.bc.symm.newOf n1 h.s0.ob).symm, (h.bd.symm.newOf n2 h.s0.ob).symm, h.now, h.lo, h.hi⟩
end Go.Proofs.Ytecpnlhjjmcllaa
