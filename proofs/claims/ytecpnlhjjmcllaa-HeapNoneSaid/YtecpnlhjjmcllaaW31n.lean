/- The heap that is none; Room. -/
import Derived.Test.YtecpnlhjjmcllaaW31h
namespace Go.Proofs.Ytecpnlhjjmcllaa
open Go.RowKit
theorem SpAt.drewN {w : World} {base p off : Nat} {arr : Array Value} {T : TypeId} {xs : List Nat} {bs : List Bool} {wv bv : Value} (h : SpAt w base p off arr T xs bs wv bv) (n : Nat) : SpAt (w.drewN n) base p off arr T xs bs wv bv :=
  ⟨h.bk, h.cw, h.cb, h.ow, h.ob, h.ap, h.pw, h.pb, h.bp⟩
theorem HpAt.drewN {w : World} {base p : Nat} {H : Hp} {a b c d : Value} (h : HpAt w base p H a b c d) (n : Nat) : HpAt (w.drewN n) base p H a b c d :=
  ⟨h.s0.drewN n, h.s1.drewN n, h.ac, h.ad, h.bc, h.bd, h.now, h.lo, h.hi⟩
theorem Look_none (x : Int) (w : World) : Calls Try.prog 18 #[.pointer none, .int .u64 x] w fun e w' => e = .returned (.tuple #[.int .i64 0, .int .i64 0, .int .i64 0, .bool false]) ∧ w' = w := by
  go_enter Try.func18, Try.ntmps18
  go_wp2_with (go_at_call 43; refine (is_none _).mono ?_; rintro e w' ⟨rfl, rfl⟩)
  exact bodyPost_ret (v := .tuple #[.int .i64 0, .int .i64 0, .int .i64 0, .bool false]) (by simp [results, Try.results18, go_sem]) rfl ⟨rfl, rfl⟩
theorem place_none (x i : Int) (w : World) : Calls Try.prog 50 #[.pointer none, .int .u64 x, .int .i64 i] w fun e w' => e = .returned (.tuple #[.pointer none, .bool false]) ∧ w' = w := by
  go_enter Try.func50, Try.ntmps50
  go_wp2_with (go_at_call 18; refine (Look_none _ _).mono ?_; rintro e w' ⟨rfl, rfl⟩)
  go_ret2
  exact ⟨rfl, rfl⟩
theorem Part_none (x i : Int) (w : World) : Calls Try.prog 23 #[.pointer none, .int .u64 x, .int .i64 i] w fun e w' => e = .returned (.tuple #[.int .u64 0, .bool false]) ∧ w' = w := by
  go_enter Try.func23, Try.ntmps23
  go_wp2_with (go_at_call 50; refine (place_none _ _ _).mono ?_; rintro e w' ⟨rfl, rfl⟩)
  go_ret2
  exact ⟨rfl, rfl⟩
theorem Set_none (x i y : Int) (w : World) : Calls Try.prog 24 #[.pointer none, .int .u64 x, .int .i64 i, .int .u64 y] w fun e w' => e = .returned (.bool false) ∧ w' = w := by
  go_enter Try.func24, Try.ntmps24
  go_wp2_with (go_at_call 50; refine (place_none _ _ _).mono ?_; rintro e w' ⟨rfl, rfl⟩)
  go_ret
  exact ⟨rfl, rfl⟩
theorem Collect_none (v : Value) (w : World) : Calls Try.prog 20 #[.pointer none, v] w fun e w' => e = .returned v ∧ w' = w := by
  go_enter Try.func20, Try.ntmps20
  go_wp2_with (go_at_call 43; refine (is_none _).mono ?_; rintro e w' ⟨rfl, rfl⟩)
  go_ret
  exact ⟨rfl, rfl⟩
theorem Alloc_none (ao : Option Addr) (w : World) : Calls Try.prog 22 #[.pointer none, .int .i64 2, .int .i64 0, .slice ao 1 1] w fun e w' => e = .returned (.tuple #[.int .u64 0, .bool false]) ∧ ∃ m, w' = w.drewN m := by
  have k5 : okE (headOk 2 0 1) = 0 := by decide
  go_enter Try.func22, Try.ntmps22
  go_wp2_with (first | (go_at_call 47; refine (Head_c 2 0 1 _ (by omega) (by omega) (by omega) (by omega) (by omega) (by omega)).mono ?_; rintro e w' ⟨rfl, rfl⟩) | (go_at_call 25; refine (Room_none _ _).mono ?_; rintro e w' ⟨rfl, m, rfl⟩))
  go_ret2
  exact ⟨rfl, _, rfl⟩
/-- is there room for so many words? -/
def roomB (H : Hp) (n : Int) : Bool := decide (0 ≤ n) && decide (n ≤ (H.size : Int) - ((H.xs.length : Int) - 1))
theorem Room_some (w : World) (base p : Nat) (H : Hp) (a b c d : Value) (h : HpAt w base p H a b c d) (hx : H.xs.length ≤ 100000000) (n : Int) :
    Calls Try.prog 25 #[.pointer (some ⟨p, 0, none⟩), .int .i64 n] w fun e w' => e = .returned (.bool (roomB H n)) ∧ ∃ m, w' = w.drewN m := by
  have c0 : w.cell? ⟨p, 0, none⟩ = some (.int .i64 (H.size : Int)) := h.s0.bk.cell 0
  have hlo := h.lo
  have hhi := h.hi
  unfold roomB
  by_cases hn : 0 ≤ n
  · have i1 : decide (n ≥ 0) = true := by simpa using hn
    have i2 : decide (0 ≤ n) = true := by simpa using hn
    obtain ⟨l, hl⟩ : ∃ l, l = H.xs.length := ⟨_, rfl⟩
    rw [← hl] at hx ⊢
    have HL := Lib.hid hl
    clear hl
    obtain ⟨s, hs⟩ : ∃ s, s = H.size := ⟨_, rfl⟩
    rw [← hs] at c0 hlo hhi ⊢
    have HS := Lib.hid hs
    clear hs
    have HU : ∀ k, Calls Try.prog 15 #[.pointer (some ⟨p, 0, none⟩)] (w.drewN k) fun e w' => e = .returned (.int .i64 ((l : Int) - 1)) ∧ ∃ m, w' = (w.drewN k).drewN m := by
      intro k
      have := Used_some _ base p H a b c d (h.drewN k) (by rw [← HL.out]; exact hx)
      rw [← HL.out] at this
      exact this
    have HU := Lib.hid HU
    go_enter Try.func25, Try.ntmps25
    go_wp2_with fail
    go_quiet (first | (go_at_call 43; exact Calls.quiet_of_same (is_some _ p s c0 hlo)) | (go_at_call 15; exact Calls.quiet_of (HU.out _)))
    go_wp2
    go_ret
    refine ⟨ret_bool ?_, _, rfl⟩
    simp [hn]
  · have i1 : decide (n ≥ 0) = false := by simpa using hn
    have i2 : decide (0 ≤ n) = false := by simpa using hn
    obtain ⟨s, hs⟩ : ∃ s, s = H.size := ⟨_, rfl⟩
    rw [← hs] at c0 hlo hhi ⊢
    have HS := Lib.hid hs
    clear hs
    go_enter Try.func25, Try.ntmps25
    go_wp2_with fail
    go_quiet (first | (go_at_call 43; exact Calls.quiet_of_same (is_some _ p s c0 hlo)))
    go_wp2
    go_ret
    exact ⟨ret_bool (by rw [i2]; rfl), _, rfl⟩
end Go.Proofs.Ytecpnlhjjmcllaa
