/- empty, New -/
import Derived.Test.YtecpnlhjjmcllaaW31n
namespace Go.Proofs.Ytecpnlhjjmcllaa
open Go.RowKit
theorem blk_new (w : World) (arr : Array Value) (T : TypeId) : Blk (w.alloc (.cells arr T)) w.heap.size arr T := by
  show (w.heap.push _)[w.heap.size]? = _
  simp
theorem Blk.below {w w' : World} {p : Nat} {arr : Array Value} {T : TypeId} {B : Nat} (h : Blk w p arr T) (hb : Below B w w') (hB : p < B) : Blk w' p arr T := (hb.block p hB).trans h
theorem Blk.own {w : World} {p : Nat} {x : Value} {T : TypeId} (h : Blk w p #[x] T) (base : Nat) (hb : base ≤ p) : w.ownsRow base T 1 (.slice (some ⟨p, 0, none⟩) 1 1) 1 [x] :=
  ⟨rfl, Or.inr ⟨p, 1, #[x], rfl, hb, h, Nat.le_refl _, by unfold maxLen; omega, rfl, rfl⟩⟩
theorem empty_c (w : World) : Calls Try.prog 38 #[] w fun e w' => e = .returned (.agg #[.slice (some ⟨w.heap.size + 1, 0, none⟩) 1 1, .slice (some ⟨w.heap.size + 1 + 1, 0, none⟩) 1 1]) ∧ Blk w' (w.heap.size + 1) #[.int .u64 0] 42 ∧ Blk w' (w.heap.size + 1 + 1) #[.bool false] 4 ∧ w'.heap.size = w.heap.size + 3 ∧ Below w.heap.size w w' := by
  go_enter Try.func38, Try.ntmps38
  go_wp2
  refine bodyPost_ret (v := .agg #[.slice (some ⟨w.heap.size + 1, 0, none⟩) 1 1, .slice (some ⟨w.heap.size + 1 + 1, 0, none⟩) 1 1]) (by simp [results, Try.results38, go_sem]) rfl ⟨rfl, ?_, ?_, by simp, ((((Below.refl _ _).alloc (Nat.le_refl _) _).alloc (by simp) _).alloc (by simp; omega) _)⟩
  · have := blk_new (w.alloc (.cells #[.slice (some ⟨w.heap.size + 1, 0, none⟩) 1 1, .slice (some ⟨w.heap.size + 1 + 1, 0, none⟩) 1 1] 77)) #[.int .u64 0] 42
    rw [show (w.alloc (.cells #[.slice (some ⟨w.heap.size + 1, 0, none⟩) 1 1, .slice (some ⟨w.heap.size + 1 + 1, 0, none⟩) 1 1] 77)).heap.size = w.heap.size + 1 from by simp] at this
    exact this.alloc _
  · have := blk_new ((w.alloc (.cells #[.slice (some ⟨w.heap.size + 1, 0, none⟩) 1 1, .slice (some ⟨w.heap.size + 1 + 1, 0, none⟩) 1 1] 77)).alloc (.cells #[.int .u64 0] 42)) #[.bool false] 4
    rw [show ((w.alloc (.cells #[.slice (some ⟨w.heap.size + 1, 0, none⟩) 1 1, .slice (some ⟨w.heap.size + 1 + 1, 0, none⟩) 1 1] 77)).alloc (.cells #[.int .u64 0] 42)).heap.size = w.heap.size + 1 + 1 from by simp] at this
    exact this
/-- what New gives -/
def NewRel (n : Nat) (w : World) (e : Ending) (w' : World) : Prop := ∃ p a b c d, e = .returned (.tuple #[.pointer (some ⟨p, 0, none⟩), .int .i64 0]) ∧ HpAt w' w.heap.size p ⟨n, 0, [0], [false], [0], [false]⟩ a b c d ∧ Below w.heap.size w w'
theorem apart_ne (g h : Nat) (n c n' c' : Nat) (hn : g ≠ h) : Apart (.slice (some ⟨g, 0, none⟩) n c) (.slice (some ⟨h, 0, none⟩) n' c') := Or.inr (Or.inr (by simpa [Value.ownBlock] using hn))
theorem own_ne (g h n c : Nat) (hn : g ≠ h) : (Value.slice (some ⟨g, 0, none⟩) n c).ownBlock ≠ some h := by simpa [Value.ownBlock] using hn
theorem New_c (n : Nat) (w : World) (h1 : 1 ≤ n) (h2 : n ≤ 16777216) : Calls Try.prog 12 #[.int .i64 (n : Int)] w (NewRel n w) := by
  have i1 : decide ((n : Int) < 1) = false := by simp; omega
  have i2 : decide ((16777216 : Int) < (n : Int)) = false := by simp; omega
  have i3 : decide (n < 1) = false := by simp; omega
  have i4 : decide (16777216 < n) = false := by simp; omega
  go_enter Try.func12, Try.ntmps12
  go_wp2_with (first | (go_at_call 38; refine (empty_c w).mono ?_; rintro e w1 ⟨rfl, p1, q1, z1, hb1⟩) | (go_at_call 38; refine (empty_c w1).mono ?_; rintro e w2 ⟨rfl, p2, q2, z2, hb2⟩))
  go_ret2
  have p1' := p1.below hb2 (by omega)
  have q1' := q1.below hb2 (by omega)
  rw [z1] at z2 p2 q2
  refine ⟨_, .slice (some ⟨w.heap.size + 1, 0, none⟩) 1 1, .slice (some ⟨w.heap.size + 1 + 1, 0, none⟩) 1 1, .slice (some ⟨w.heap.size + 3 + 1, 0, none⟩) 1 1, .slice (some ⟨w.heap.size + 3 + 1 + 1, 0, none⟩) 1 1, rfl, ⟨⟨?_, rfl, rfl, (p1'.alloc _).own _ (by omega), (q1'.alloc _).own _ (by omega), apart_ne _ _ _ _ _ _ (by omega), own_ne _ _ _ _ (by omega), own_ne _ _ _ _ (by omega), by omega⟩, ⟨?_, rfl, rfl, (p2.alloc _).own _ (by omega), (q2.alloc _).own _ (by omega), apart_ne _ _ _ _ _ _ (by omega), own_ne _ _ _ _ (by omega), own_ne _ _ _ _ (by omega), by omega⟩, apart_ne _ _ _ _ _ _ (by omega), apart_ne _ _ _ _ _ _ (by omega), apart_ne _ _ _ _ _ _ (by omega), apart_ne _ _ _ _ _ _ (by omega), Or.inl rfl, h1, h2⟩, (bel_trans hb1 hb2).alloc (by omega) _⟩
  all_goals
    have := blk_new w2 (arrH ⟨n, 0, [0], [false], [0], [false]⟩ (.slice (some ⟨w.heap.size + 1, 0, none⟩) 1 1) (.slice (some ⟨w.heap.size + 1 + 1, 0, none⟩) 1 1) (.slice (some ⟨w.heap.size + 3 + 1, 0, none⟩) 1 1) (.slice (some ⟨w.heap.size + 3 + 1 + 1, 0, none⟩) 1 1)) 81
    rw [z2] at this
    exact this
end Go.Proofs.Ytecpnlhjjmcllaa
