/- cognateref02.Pack -/
import Derived.Test.YtecpnlhjjmcllaaW02s
import Derived.Test.YtecpnlhjjmcllaaAP
namespace Go.Proofs.Ytecpnlhjjmcllaa
open Go.RowKit
/-- the first q words -/
def packPre (s : List Nat) (q : Nat) : List Nat := (List.range q).map fun j => leN (chunk s j)
theorem packPre_len (s : List Nat) (q : Nat) : (packPre s q).length = q := by simp [packPre]
theorem packPre_succ (s : List Nat) (q : Nat) : packPre s (q + 1) = packPre s q ++ [leN (chunk s q)] := by simp [packPre, List.range_succ]
theorem packPre_full (s : List Nat) : packPre s ((s.length + 7) / 8) = packL s := rfl
/-- the bytes from place j of a word on -/
def tailW (s : List Nat) (i j : Nat) : Nat := leN ((s.drop (i + j)).take (8 - j))
theorem tailW_8 (s : List Nat) (i : Nat) : tailW s i 8 = 0 := by simp [tailW, leN]
theorem tailW_0 (s : List Nat) (q : Nat) : tailW s (8 * q) 0 = leN (chunk s q) := by simp [tailW, chunk]
theorem tailW_in (s : List Nat) (i j : Nat) (hj : j < 8) (h : i + j < s.length) : tailW s i j = s[i + j] + 256 * tailW s i (j + 1) := by
  unfold tailW
  rw [List.drop_eq_getElem_cons h, show 8 - j = (8 - (j + 1)) + 1 from by omega, List.take_succ_cons, leN]
  rfl
theorem tailW_out (s : List Nat) (i j : Nat) (h : s.length ≤ i + j) : tailW s i j = 0 := by
  unfold tailW
  rw [List.drop_eq_nil_of_le h]; simp [leN]
theorem tailW_lt (s : List Nat) (hs : ∀ x ∈ s, x < 256) (i j : Nat) (hj : 1 ≤ j) (hj8 : j ≤ 8) : tailW s i j ≤ 72057594037927935 := by
  have h := leN_lt ((s.drop (i + j)).take (8 - j)) (fun x hx => hs x (List.mem_of_mem_drop (List.mem_of_mem_take hx)))
  have h2 : ((s.drop (i + j)).take (8 - j)).length ≤ 7 := by simp; omega
  have h3 : 256 ^ ((s.drop (i + j)).take (8 - j)).length ≤ 256 ^ 7 := Nat.pow_le_pow_right (by omega) h2
  unfold tailW
  omega
theorem elemU64 : ElemT Try.prog 34 42 (.int .u64 0) 1 8 := ⟨Try.underlying34, infoU64, rfl, by omega, by omega⟩
set_option maxHeartbeats 2000000 in
theorem rPack_c (s : ByteArray) (w : World) (hs : s.size ≤ 1000000000) :
    Calls Try.prog 54 #[.string s] w fun e w' => ∃ v, e = .returned v ∧ w'.ownsRow w.heap.size 42 1 v ((s.size + 7) / 8) (u64s (packL (bytesN s))) ∧ Below w.heap.size w w' := by
  have hlen := bytesN_len s
  have hlt := bytesN_lt s
  have hget := bytesN_get s
  generalize bytesN s = bs at *
  have HL := Lib.hid hlen
  have HG := Lib.hid hget
  have HT := Lib.hid hlt
  clear hlen hget hlt
  go_enter Try.func54, Try.ntmps54
  go_wp2
  go_loopw [3, 4] (fun v vi wr => ∃ q : Nat, 8 * q ≤ s.size + 7 ∧ vi = .int .i64 (8 * (q : Int)) ∧ wr.ownsRow w.heap.size 42 1 v q (u64s (packPre bs q)) ∧ Below w.heap.size w wr) (fun _ vi _ => s.size + 8 - (intOf vi).toNat)
  case atStart => exact ⟨0, by omega, rfl, World.ownsRow_nil _ _ _ _, Below.refl _ _⟩
  case round =>
    obtain ⟨q, hq, rfl, hown, hbel⟩ := hrel
    obtain ⟨wo, rfl⟩ : ∃ wo : World, wo = wr := ⟨_, rfl⟩
    by_cases hqs : 8 * q < s.size
    · have hd : decide (8 * (q : Int) < (s.size : Int)) = true := by simp; omega
      go_wp2
      go_loop [5, 6] (fun vu vk => ∃ j : Nat, j ≤ 8 ∧ vk = .int .i64 ((j : Int) - 1) ∧ vu = .int .u64 (tailW bs (8 * q) j)) (fun _ vk => (intOf vk + 1).toNat)
      case atStart => exact ⟨8, by omega, rfl, by rw [tailW_8]; rfl⟩
      case round =>
        obtain ⟨j, hj, rfl, rfl⟩ := hrel
        by_cases hj0 : j = 0
        · subst hj0
          rw [tailW_0]
          obtain ⟨u, hu⟩ : ∃ u, u = leN (chunk bs q) := ⟨_, rfl⟩
          rw [← hu]
          have HU := Lib.hid hu
          clear hu
          have hm : q ≤ 1000000000 := by omega
          go_wp2_with (at_builtin; refine wpList_app elemU64 rfl _ _ rfl w.heap.size w.heap.size w _ _ _ rfl (hown.alloc _) wo.heap.size [.int .u64 (u : Int)] rfl rfl (by simp) (one_int _ _) (by omega) (hbel.alloc hbel.size _) (Nat.le_refl _) (Nat.le_trans hbel.size (by simp)) ?_; intro v' w1 hown' hbel' _)
          have hown2 : w1.ownsRow w.heap.size 42 1 v' (q + 1) (u64s (packPre bs (q + 1))) := by
              rw [packPre_succ, ← HU.out]; simpa [u64s] using hown'
          clear hown' hown
          go_roundw
          case rel => exact ⟨q + 1, by omega, by congr 1, hown2, hbel'⟩
          case measure => simp [intOf]; omega
        · obtain ⟨i, rfl⟩ : ∃ i, j = i + 1 := ⟨j - 1, by omega⟩
          rw [show ((i + 1 : Nat) : Int) - 1 = (i : Int) from by omega]
          have hb := tailW_lt bs HT.out (8 * q) (i + 1) (by omega) hj
          obtain ⟨u, hu⟩ : ∃ u, u = tailW bs (8 * q) (i + 1) := ⟨_, rfl⟩
          rw [← hu] at hb ⊢
          have HU := Lib.hid hu
          clear hu
          by_cases hin : 8 * q + i < s.size
          · have hbl : (s[8 * q + i]).toNat < 256 := UInt8.toNat_lt _
            have n1 : (8 * (q : Int) + (i : Int)).toNat = 8 * q + i := by omega
            go_wp2
            go_round
            case rel => exact ⟨i, by omega, rfl, by rw [tailW_in bs (8 * q) i (by omega) (by rw [HL.out]; exact hin), HG.out _ hin (by rw [HL.out]; exact hin), ← HU.out]; congr 1; omega⟩
            case measure => simp [intOf]
          · go_wp2
            go_round
            case rel => exact ⟨i, by omega, rfl, by rw [tailW_out bs (8 * q) i (by rw [HL.out]; omega)]; have := HU.out; rw [tailW_out bs (8 * q) (i + 1) (by rw [HL.out]; omega)] at this; rw [this]; rfl⟩
            case measure => simp [intOf]
    · go_wp2
      go_ret
      have hqe : q = (s.size + 7) / 8 := by omega
      subst hqe
      exact ⟨_, rfl, by rw [← packPre_full, HL.out]; exact hown, hbel⟩
end Go.Proofs.Ytecpnlhjjmcllaa
