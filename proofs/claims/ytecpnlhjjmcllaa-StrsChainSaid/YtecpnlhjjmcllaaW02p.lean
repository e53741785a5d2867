/- word.Pack -/
import Derived.Test.YtecpnlhjjmcllaaW02
import Derived.Test.YtecpnlhjjmcllaaP02p
import Derived.BigRegion
namespace Go.Proofs.Ytecpnlhjjmcllaa
open Go.RowKit
theorem infoU64 : (Try.prog.info? 42).map (fun i => (i.zero, i.size, i.bytes)) = some (some (.int .u64 0), 1, 8) := by kernel_rfl
def u64s (l : List Nat) : List Value := l.map fun n : Nat => Value.int .u64 (n : Int)
theorem u64s_len (l : List Nat) : (u64s l).length = l.length := by simp [u64s]
set_option maxHeartbeats 1000000 in
theorem Pack_c (s : ByteArray) (w : World) (hs : s.size ≤ 1000000000) :
    Calls Try.prog 58 #[.string s] w fun e w' => ∃ v, e = .returned v ∧ w'.ownsRow w.heap.size 42 1 v ((s.size + 7) / 8) (u64s (packL (bytesN s))) ∧ Below w.heap.size w w' := by
  obtain ⟨i0, hi, hz0, hz1, hz2⟩ := info_parts infoU64
  have hb8 : i0.bytes * ((s.size + 7) / 8) ≤ 281474976710656 := by rw [hz2]; omega
  have HZ0 := Lib.hid hz0
  have HZ1 := Lib.hid hz1
  have HI := Lib.hid hi
  clear hz0 hz1 hi hz2
  go_enter Try.func58, Try.ntmps58
  go_wp2_with (at_make; refine wpList_make_full _ rfl _ _ 34 rfl w.heap.size 42 i0 (.int .u64 0) 1 Try.underlying34 HI.out HZ0.out HZ1.out .i64 .i64 _ _ ((s.size + 7) / 8) rfl rfl (by omega) (by omega) hb8 (by unfold maxLen; omega) (Nat.le_refl _) ?_; intro w1 hown hgrow)
  have hown0 : w1.ownsRow w.heap.size 42 1 (.slice (some ⟨w.heap.size, 0, none⟩) ((s.size + 7) / 8) ((s.size + 7) / 8)) ((s.size + 7) / 8) (u64s (packTo (bytesN s) 0 ((s.size + 7) / 8))) := by
    rw [packTo_zero]
    have e : (madeCells (Value.int IntKind.u64 0).cells ((s.size + 7) / 8 * 1)).toList = u64s (List.replicate ((s.size + 7) / 8) 0) := by
      rw [Nat.mul_one]; exact (toList_madeCells_one _ _).trans (by simp [u64s])
    rw [e] at hown; exact hown
  have hbel0 : Below w.heap.size w w1 := (Below.refl _ _).grown hgrow (Nat.le_refl _) (by simp)
  clear hown hgrow
  go_loopw [12] (fun vi wr => ∃ k : Nat, k ≤ s.size ∧ vi = .int .i64 k ∧ wr.ownsRow w.heap.size 42 1 (.slice (some ⟨w.heap.size, 0, none⟩) ((s.size + 7) / 8) ((s.size + 7) / 8)) ((s.size + 7) / 8) (u64s (packTo (bytesN s) k ((s.size + 7) / 8))) ∧ Below w.heap.size w wr) (fun vi _ => s.size - (intOf vi).toNat)
  case atStart => exact ⟨0, Nat.zero_le _, rfl, hown0, hbel0⟩
  case round =>
    obtain ⟨k, hk, rfl, hown, hbel⟩ := hrel
    by_cases hks : k < s.size
    · have hkl : k < (bytesN s).length := by rw [bytesN_len]; exact hks
      have hcell : wr.cell? ⟨w.heap.size, k / 8, none⟩ = some (.int .u64 (leN (chunk ((bytesN s).take k) (k / 8)) : Nat)) := by
        rw [hown.cellAt (k / 8) (by omega)]
        simp only [u64s, List.getElem?_map]
        rw [packTo_get _ _ _ _ (by omega)]; rfl
      have hfr : wr.frozen? ⟨w.heap.size, k / 8, none⟩ = false := hown.frozenAt _
      obtain ⟨u, hu⟩ : ∃ u, u = leN (chunk ((bytesN s).take k) (k / 8)) := ⟨_, rfl⟩
      rw [← hu] at hcell
      have Hu := Lib.hid hu
      clear hu
      have i1 : (0 : Int) ≤ (k : Int) / 8 := by omega
      have i2 : (k : Int) / 8 < (((s.size + 7) / 8 : Nat) : Int) := by omega
      go_wp2
      go_region
      go_wp2
      go_roundw
      case rel =>
        have hb := bytesN_lt s _ (List.getElem_mem hkl)
        rw [bytesN_get s k hks hkl] at hb
        have hval := or_byte u (s[k]).toNat (k % 8) (by omega) hb (by rw [Hu.out]; exact word_lt _ _ (bytesN_lt s) (by omega))
        rw [hval]
        have hst := hown.stored (k / 8) (.int .u64 ((u + 256 ^ (k % 8) * (s[k]).toNat : Nat) : Int))
        refine ⟨k + 1, by omega, by go_num, ?_, (hbel.grown hst.2 hbel.size (fun j hj => by simp at hj; omega)).drew⟩
        have h1 := hst.1.drew
        rw [packTo_step _ k _ hkl, bytesN_get s k hks hkl, ← Hu.out]
        rw [u64s, u64s_set] at h1
        exact h1
      case measure => simp [intOf]; omega
    · go_wp2
      go_ret
      have hke : k = s.size := by omega
      subst hke
      exact ⟨_, rfl, by rw [← packTo_full _ s.size (by rw [bytesN_len]; exact Nat.le_refl _), bytesN_len]; exact hown, hbel⟩
end Go.Proofs.Ytecpnlhjjmcllaa
