/- word.Unpack -/
import Derived.Test.YtecpnlhjjmcllaaW02r
import Derived.Test.YtecpnlhjjmcllaaP02u
namespace Go.Proofs.Ytecpnlhjjmcllaa
open Go.RowKit
theorem infoU8 : (Try.prog.info? 5).map (fun i => (i.zero, i.size, i.bytes)) = some (some (.int .u8 0), 1, 1) := by kernel_rfl
def u8s (l : List Nat) : List Value := l.map fun n : Nat => Value.int .u8 (n : Int)
/-- the bytes that are laid when k are read -/
def bytesTo (ls : List Nat) (n k : Nat) : List Nat := (List.range n).map fun i => if i < k then byteAt ls i else 0
theorem bytesTo_0 (ls : List Nat) (n : Nat) : bytesTo ls n 0 = List.replicate n 0 := by
  simp [bytesTo, List.eq_replicate_iff]
theorem bytesTo_full (ls : List Nat) (n k : Nat) (h : n ≤ k) : bytesTo ls n k = bytesOf ls n := by
  simp only [bytesTo, bytesOf]
  apply List.map_congr_left
  intro i hi
  simp at hi
  rw [if_pos (by omega)]
theorem bytesTo_step (ls : List Nat) (n k : Nat) : bytesTo ls n (k + 1) = (bytesTo ls n k).set k (byteAt ls k) := by
  apply List.ext_getElem
  · simp [bytesTo]
  · intro j h1 h2
    rw [List.getElem_set]
    simp only [bytesTo, List.getElem_map, List.getElem_range]
    by_cases e : k = j
    · subst e; simp
    · rw [if_neg e]
      by_cases hj : j < k
      · rw [if_pos hj, if_pos (by omega)]
      · rw [if_neg hj, if_neg (by omega)]
theorem byte_shift (ls : List Nat) (k : Nat) : IntKind.u8.wrap (((ls.getD (k / 8) 0 : Nat) : Int) / 2 ^ (8 * (k % 8))) = (byteAt ls k : Nat) := by
  have hp : (256 : Nat) ^ (k % 8) = 2 ^ (8 * (k % 8)) := by rw [Nat.pow_mul]
  have hc : ((2 : Int) ^ (8 * (k % 8))) = ((2 ^ (8 * (k % 8)) : Nat) : Int) := by simp
  unfold byteAt
  rw [IntKind.wrap_u8', hc, hp]
  generalize (2 : Nat) ^ (8 * (k % 8)) = q
  rfl
def unpS (ok : Bool) (ls : List Nat) (n : Nat) : ByteArray := if ok then strN (bytesOf ls n) else ⟨#[]⟩
theorem ret_si {a b : ByteArray} {k : IntKind} {c d : Int} (h : a = b) (h' : c = d) : Ending.returned (.tuple #[.string a, .int k c]) = .returned (.tuple #[.string b, .int k d]) := by rw [h, h']
theorem ret_sb {a b : ByteArray} {c d : Bool} (h : a = b) (h' : c = d) : Ending.returned (.tuple #[.string a, .bool c]) = .returned (.tuple #[.string b, .bool d]) := by rw [h, h']
theorem u8s_set (l : List Nat) (j x : Nat) : (u8s l).set j (.int .u8 (x : Int)) = u8s (l.set j x) := by
  unfold u8s; rw [List.map_set]
theorem conv_own {w : World} {base g n cap : Nat} {l : List Nat} (hown : w.ownsRow base 5 1 (.slice (some ⟨g, 0, none⟩) n cap) n (u8s l)) :
    (convert 105 9 (.slice (some ⟨g, 0, none⟩) n cap)).run Try.prog w = .ok (.string (strN l)) w := by
  have hl : l.length = n := by have := hown.1; simpa [u8s] using this
  refine run_convert_bytes_arg _ 105 5 (by kernel_rfl) (by kernel_rfl) g 0 n cap (l.map fun x : Nat => (x : Int)) (by simpa using hl) (fun i hi => ?_) 9 (by kernel_rfl)
  rw [Nat.zero_add, hown.cellAt i (by omega)]
  simp [u8s, List.getD, hl ▸ hi]
set_option maxHeartbeats 1000000 in
set_option maxRecDepth 100000 in
theorem Unpack_run (a : Option Addr) (m ca : Nat) (n : Nat) (ls : List Nat) (w : World) (ha : SlAt w a 1 m (u64s ls)) (hm : m ≤ 1000000) (h1 : n ≤ 8 * m) (h2 : 8 * m < n + 8) (Hf : Bool) (hf : Hf = true ↔ fullN ls n) :
    Calls Try.prog 52 #[.slice a m ca, .int .i64 n] w fun e w' => e = .returned (.tuple #[.string (unpS Hf ls n), .int .i64 (okE Hf)]) ∧ Below w.heap.size w w' := by
  have lx : ls.length = m := by have := ha.len; simpa [u64s_len] using this
  have LX := Lib.hid lx
  clear lx
  obtain ⟨i0, hi, hz0, hz1, hz2⟩ := info_parts infoU8
  have hb8 : i0.bytes * n ≤ 281474976710656 := by rw [hz2]; omega
  have HZ0 := Lib.hid hz0
  have HZ1 := Lib.hid hz1
  have HI := Lib.hid hi
  clear hz0 hz1 hi hz2
  have HF := Lib.hid hf
  clear hf
  have d1 : decide ((n : Int) < 0) = false := by simp
  have d2 : decide (8 * (m : Int) < (n : Int)) = false := by simp; omega
  have d3 : decide ((n : Int) ≤ 8 * ((m : Int) - 1)) = false := by simp; omega
  go_enter Try.func52, Try.ntmps52
  go_wp2_with (at_make; refine wpList_make_full _ rfl _ _ 105 rfl w.heap.size 5 i0 (.int .u8 0) 1 Try.underlying105 HI.out HZ0.out HZ1.out .i64 .i64 _ _ n rfl rfl (by omega) (by omega) hb8 (by unfold maxLen; omega) (Nat.le_refl _) ?_; intro w1 hown hgrow)
  have hown0 : w1.ownsRow w.heap.size 5 1 (.slice (some ⟨w.heap.size, 0, none⟩) n n) n (u8s (bytesTo ls n 0)) := by
    rw [bytesTo_0]
    have e : (madeCells (Value.int IntKind.u8 0).cells (n * 1)).toList = u8s (List.replicate n 0) := by
      rw [Nat.mul_one]; exact (toList_madeCells_one _ _).trans (by simp [u8s])
    rw [e] at hown; exact hown
  have hbel0 : Below w.heap.size w w1 := (Below.refl _ _).grown hgrow (Nat.le_refl _) (by simp)
  clear hown hgrow
  go_loopw [31] (fun vi wr => ∃ k : Nat, k ≤ 8 * m ∧ vi = .int .i64 k ∧ wr.ownsRow w.heap.size 5 1 (.slice (some ⟨w.heap.size, 0, none⟩) n n) n (u8s (bytesTo ls n k)) ∧ Below w.heap.size w wr ∧ ∀ i, n ≤ i → i < k → byteAt ls i = 0) (fun vi _ => 8 * m - (intOf vi).toNat)
  case atStart => exact ⟨0, Nat.zero_le _, rfl, hown0, hbel0, fun i _ h => by omega⟩
  case round =>
    obtain ⟨k, hk, rfl, hown, hbel, hzero⟩ := hrel
    have HZ := Lib.hid hzero
    clear hzero
    by_cases hkm : k < 8 * m
    · obtain ⟨ba, oa, ea, hca⟩ := (ha.below hbel).get (by omega)
      subst ea
      have c1 : wr.cell? ⟨ba, oa + k / 8, none⟩ = some (.int .u64 (ls.getD (k / 8) 0 : Nat)) := by
        rw [hca (k / 8) (by omega)]
        have : k / 8 < ls.length := by rw [LX.out]; omega
        simp [u64s, this]
      have hsh := byte_shift ls k
      have hby := byteAt_lt ls k
      obtain ⟨x, hx⟩ : ∃ x, x = ls.getD (k / 8) 0 := ⟨_, rfl⟩
      rw [← hx] at c1 hsh
      obtain ⟨c, hc⟩ : ∃ c, c = byteAt ls k := ⟨_, rfl⟩
      rw [← hc] at hsh hby
      have HC := Lib.hid hc
      clear hx hc hca
      have i1 : (0 : Int) ≤ (k : Int) / 8 := by omega
      have i2 : (k : Int) / 8 < (m : Int) := by omega
      by_cases hkn : k < n
      · have hcell : wr.cell? ⟨w.heap.size, k, none⟩ = some (.int .u8 0) := by
          rw [hown.cellAt k (by omega)]
          simp [u8s, bytesTo, hkn]
        have hfr : wr.frozen? ⟨w.heap.size, k, none⟩ = false := hown.frozenAt _
        go_wp2
        go_roundw
        case rel =>
          have hst := hown.stored k (.int .u8 (c : Int))
          refine ⟨k + 1, by omega, by go_num, ?_, hbel.grown hst.2 hbel.size (fun j hj => by simp at hj; omega), fun i h1 h2 => by omega⟩
          have h1 := hst.1
          rw [u8s_set, HC.out, ← bytesTo_step] at h1
          rw [HC.out]
          exact h1
        case measure => simp [intOf]; omega
      · go_wp2
        · have hne : ((c : Int) != 0) = true := by assumption
          have hne' : c ≠ 0 := by rw [bne_iff_ne] at hne; omega
          go_ret2
          have hff : Hf = false := by
            cases hh : Hf
            · rfl
            · exact absurd ((HF.out.1 hh).2.2 k (by omega) (by rw [LX.out]; exact hkm)) (by rw [← HC.out]; exact hne')
          exact ⟨ret_si (by rw [hff]; rfl) (by rw [hff]; rfl), hbel⟩
        · have hne : ((c : Int) != 0) = false := by assumption
          have hne' : c = 0 := by simp at hne; omega
          go_roundw
          case rel =>
            refine ⟨k + 1, by omega, by go_num, ?_, hbel, fun i h1 h2 => ?_⟩
            · rw [bytesTo_full _ _ _ (by omega)]; rw [bytesTo_full _ _ _ (by omega)] at hown; exact hown
            · by_cases e : i = k
              · rw [e, ← HC.out]; exact hne'
              · exact HZ.out i h1 (by omega)
          case measure => simp [intOf]; omega
    · have hke : k = 8 * m := by omega
      rw [bytesTo_full _ _ _ (by omega)] at hown
      have hcv := conv_own hown
      have HK := Lib.hid hke
      clear hke
      go_wp2
      go_ret2
      have hff : Hf = true := HF.out.2 ⟨by rw [LX.out]; omega, by rw [LX.out]; omega, fun i h1 h2 => HZ.out i h1 (by rw [LX.out] at h2; omega)⟩
      exact ⟨ret_si (by rw [hff]; rfl) (by rw [hff]; rfl), hbel⟩
end Go.Proofs.Ytecpnlhjjmcllaa
