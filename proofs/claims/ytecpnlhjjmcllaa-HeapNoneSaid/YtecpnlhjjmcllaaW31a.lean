/- cognatelaw31.awake -/
import Derived.Test.YtecpnlhjjmcllaaW31m
namespace Go.Proofs.Ytecpnlhjjmcllaa
open Go.RowKit
theorem SpAt.alloc {w : World} {base p off : Nat} {arr : Array Value} {T : TypeId} {xs : List Nat} {bs : List Bool} {wv bv : Value} (h : SpAt w base p off arr T xs bs wv bv) (o : Obj) : SpAt (w.alloc o) base p off arr T xs bs wv bv :=
  ⟨h.bk.alloc _, h.cw, h.cb, h.ow.alloc _, h.ob.alloc _, h.ap, h.pw, h.pb, h.bp⟩
theorem HpAt.alloc {w : World} {base p : Nat} {H : Hp} {a b c d : Value} (h : HpAt w base p H a b c d) (o : Obj) : HpAt (w.alloc o) base p H a b c d :=
  ⟨h.s0.alloc o, h.s1.alloc o, h.ac, h.ad, h.bc, h.bd, h.now, h.lo, h.hi⟩
theorem slAt_one (w : World) (T : TypeId) (n : Nat) : SlAt (w.alloc (.cells #[.int .u64 (n : Int)] T)) (some ⟨w.heap.size, 0, none⟩) 1 1 (u64s [n]) := by
  refine ⟨rfl, Or.inr ⟨_, _, rfl, fun j hj => ?_⟩⟩
  have : j = 0 := by omega
  subst this
  rw [World.cell?_alloc_at _ _ _ _ rfl]
  rfl
/-- Alloc of one word in a new heap -/
theorem Alloc_new (w : World) (base p : Nat) (a b c d : Value) (h : HpAt w base p ⟨8, 0, [0], [false], [0], [false]⟩ a b c d) (hbase : base ≤ w.heap.size) :
    Calls Try.prog 22 #[.pointer (some ⟨p, 0, none⟩), .int .i64 2, .int .i64 0, .slice (some ⟨w.heap.size, 0, none⟩) 1 1] (w.alloc (.cells #[.int .u64 11] 42)) fun e w' => e = .returned (.tuple #[.int .u64 2, .bool true]) ∧ ∃ H a' b', H.xs.length = 3 ∧ HpAt w' base p H a' b' c d ∧ Below base w w' := by
  refine (Alloc_0 _ base p _ a b c d (h.alloc _) rfl (by decide) (by decide) (Nat.le_trans hbase (by simp)) 2 0 1 (by decide) (by decide) (by decide) _ 1 [11] (slAt_one w _ 11) (by simp) ?_).mono ?_
  · intro b' o e
    simp only [Option.some.injEq, Addr.mk.injEq] at e
    obtain ⟨rfl, _⟩ := e
    intro e'
    have := own_block_lt h.s0.ow _ e'
    omega
  · rintro e w' ⟨rfl, a', b', hh, hb⟩
    refine ⟨rfl, _, a', b', ?_, hh, ((Below.refl base w).alloc hbase _).trans hb⟩
    decide +kernel
set_option maxHeartbeats 400000 in
theorem awake31 (w : World) : Calls Try.prog 10 #[] w fun e w' => e = .returned (.bool true) ∧ Below w.heap.size w w' := by
  go_enter Try.func10, Try.ntmps10
  go_wp2_with (first
    | (go_at_call 12; refine (New_c 8 _ (by omega) (by omega)).mono ?_; rintro e w1 ⟨p, a, b, c, d, rfl, h1, hb1⟩)
    | (go_at_call 22; refine (Alloc_new w1 w.heap.size p a b c d h1 hb1.size).mono ?_; rintro e w2 ⟨rfl, H, a', b', hl, h2, hb2⟩; have HL := Lib.hid hl; clear hl)
    | (go_at_call 15; refine (Used_some _ w.heap.size p H a' b' c d h2 (by rw [HL.out]; omega)).mono ?_; rintro e w3 ⟨rfl, j, rfl⟩; rw [HL.out]))
  go_ret
  exact ⟨rfl, below_drewN (hb1.trans hb2) _⟩
end Go.Proofs.Ytecpnlhjjmcllaa
