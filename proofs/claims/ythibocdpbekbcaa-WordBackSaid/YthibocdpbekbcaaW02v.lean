/- word.Unpack at what it refuses; cognateref02.Unpack -/
import Derived.Test.YthibocdpbekbcaaW02u
namespace Go.Proofs.Ythibocdpbekbcaa
open Go.RowKit
set_option maxHeartbeats 1000000 in
theorem Unpack_no (a : Option Addr) (m ca : Nat) (n : Int) (w : World) (hm : m ≤ 1000000) (h : n < 0 ∨ 8 * (m : Int) < n ∨ n ≤ 8 * ((m : Int) - 1)) :
    Calls Try.prog 36 #[.slice a m ca, .int .i64 n] w fun e w' => e = .returned (.tuple #[.string ⟨#[]⟩, .int .i64 2]) ∧ w = w' := by
  by_cases h1 : n < 0
  · clear h
    go_enter Try.func36, Try.ntmps36
    go_wp2
    go_ret2
    exact ⟨rfl, rfl⟩
  · by_cases h2 : 8 * (m : Int) < n
    · clear h
      go_enter Try.func36, Try.ntmps36
      go_wp2
      go_ret2
      exact ⟨rfl, rfl⟩
    · have h3 : n ≤ 8 * ((m : Int) - 1) := by omega
      clear h
      go_enter Try.func36, Try.ntmps36
      go_wp2
      go_ret2
      exact ⟨rfl, rfl⟩
set_option maxHeartbeats 1000000 in
theorem rUnpack_no (a : Option Addr) (m ca : Nat) (n : Int) (w : World) (hm : m ≤ 1000000) (h : n < 0 ∨ 8 * (m : Int) < n) :
    Calls Try.prog 37 #[.slice a m ca, .int .i64 n] w fun e w' => e = .returned (.tuple #[.string ⟨#[]⟩, .bool false]) ∧ w = w' := by
  by_cases h1 : n < 0
  · clear h
    go_enter Try.func37, Try.ntmps37
    go_wp2_with fail
    go_ret2
    exact ⟨rfl, rfl⟩
  · have h2 : 8 * (m : Int) < n := by omega
    clear h
    go_enter Try.func37, Try.ntmps37
    go_wp2_with fail
    go_ret2
    exact ⟨rfl, rfl⟩
theorem elemU8 : ElemT Try.prog 79 5 (.int .u8 0) 1 1 := ⟨Try.underlying79, infoU8, rfl, by omega, by omega⟩
theorem conv_own_any {w : World} {base n : Nat} {v : Value} {l : List Nat} (hown : w.ownsRow base 5 1 v n (u8s l)) :
    (convert 79 9 v).run Try.prog w = .ok (.string (strN l)) w := by
  have h' := hown
  rcases hown.2 with ⟨rfl, rfl⟩ | ⟨g, cap, cur, rfl, _⟩
  · have hl : l = [] := by have := hown.1; simpa [u8s] using this
    subst hl
    exact run_convert_bytes_nil w 79 5 (by kernel_rfl) (by kernel_rfl) 0 0 9 (by kernel_rfl)
  · exact conv_own h'
theorem bytesOf_succ (ls : List Nat) (k : Nat) : bytesOf ls (k + 1) = bytesOf ls k ++ [byteAt ls k] := by simp [bytesOf, List.range_succ]
set_option maxHeartbeats 2000000 in
theorem rUnpack_run (a : Option Addr) (m ca : Nat) (n : Nat) (ls : List Nat) (w : World) (ha : SlAt w a 1 m (u64s ls)) (hu : ∀ x ∈ ls, x < 18446744073709551616) (hm : m ≤ 1000000) (h1 : n ≤ 8 * m) :
    Calls Try.prog 37 #[.slice a m ca, .int .i64 n] w fun e w' => e = .returned (.tuple #[.string (unpS (packL (bytesOf ls n) == ls) ls n), .bool (packL (bytesOf ls n) == ls)]) ∧ Below w.heap.size w w' := by
  have lx : ls.length = m := by have := ha.len; simpa [u64s_len] using this
  have LX := Lib.hid lx
  have HU := Lib.hid hu
  clear lx hu
  have d1 : decide ((n : Int) < 0) = false := by simp
  have d2 : decide (8 * (m : Int) < (n : Int)) = false := by simp; omega
  go_enter Try.func37, Try.ntmps37
  go_wp2_with fail
  go_loopw [6, 7] (fun v vi wr => ∃ k : Nat, k ≤ n ∧ vi = .int .i64 k ∧ wr.ownsRow w.heap.size 5 1 v k (u8s (bytesOf ls k)) ∧ Below w.heap.size w wr) (fun _ vi _ => n - (intOf vi).toNat)
  case atStart => exact ⟨0, Nat.zero_le _, rfl, World.ownsRow_nil _ _ _ _, Below.refl _ _⟩
  case round =>
    obtain ⟨k, hk, rfl, hown, hbel⟩ := hrel
    obtain ⟨wo, rfl⟩ : ∃ wo : World, wo = wr := ⟨_, rfl⟩
    by_cases hkn : k < n
    · obtain ⟨ba, oa, ea, hca⟩ := (ha.below hbel).get (by omega)
      have ha0 := ha
      subst ea
      have hkl : k / 8 < ls.length := by rw [LX.out]; omega
      have c1 : wo.cell? ⟨ba, oa + k / 8, none⟩ = some (.int .u64 (ls.getD (k / 8) 0 : Nat)) := by
        rw [hca (k / 8) (by omega)]
        simp [u64s, hkl]
      have hxl : ls.getD (k / 8) 0 < 18446744073709551616 := by
        have := HU.out _ (List.getElem_mem hkl)
        simpa [List.getD, hkl] using this
      obtain ⟨x, hx⟩ : ∃ x, x = ls.getD (k / 8) 0 := ⟨_, rfl⟩
      rw [← hx] at c1 hxl
      have HX := Lib.hid hx
      clear hx hca
      have i1 : (0 : Int) ≤ (k : Int) / 8 := by omega
      have i2 : (k : Int) / 8 < (m : Int) := by omega
      have d3 : decide ((k : Int) < (n : Int)) = true := by simp; omega
      have d4 : decide (k < n) = true := by simp; omega
      go_wp2_with fail
      go_loop [8, 9] (fun vw vk => ∃ j : Nat, j ≤ k % 8 ∧ vk = .int .i64 (j : Int) ∧ vw = .int .u64 (x / 256 ^ j : Nat)) (fun _ vk => (k % 8) - (intOf vk).toNat)
      case atStart => exact ⟨0, by omega, rfl, by simp⟩
      case round =>
        obtain ⟨j, hj, rfl, rfl⟩ := hrel
        have hle : x / 256 ^ j ≤ x := Nat.div_le_self _ _
        obtain ⟨y, hy⟩ : ∃ y, y = x / 256 ^ j := ⟨_, rfl⟩
        rw [← hy] at hle ⊢
        have HY := Lib.hid hy
        clear hy
        by_cases hjr : j < k % 8
        · go_wp2_with fail
          go_round
          case rel => exact ⟨j + 1, by omega, by go_num, by congr 1; rw [HY.out, Nat.pow_succ, ← Nat.div_div_eq_div_mul]; rfl⟩
          case measure => simp [intOf]; omega
        · have hje : j = k % 8 := by omega
          have hbv : byteAt ls k = y % 256 := by unfold byteAt; rw [HY.out, HX.out, hje]
          have HB := Lib.hid hbv
          clear hje hbv
          go_wp2_with (at_builtin; refine wpList_app elemU8 rfl _ _ rfl w.heap.size w.heap.size w _ _ _ rfl (hown.alloc _) wo.heap.size [.int .u8 ((y : Int) % 256)] rfl rfl (by simp) (one_int _ _) (by omega) (hbel.alloc hbel.size _) (Nat.le_refl _) (Nat.le_trans hbel.size (by simp)) ?_; intro v' w1 hown' hbel' _)
          have hown2 : w1.ownsRow w.heap.size 5 1 v' (k + 1) (u8s (bytesOf ls (k + 1))) := by
            rw [bytesOf_succ, HB.out]
            have e : u8s (bytesOf ls k ++ [y % 256]) = u8s (bytesOf ls k) ++ [.int .u8 ((y : Int) % 256)] := by simp [u8s]
            rw [e]; exact hown'
          clear hown' hown
          go_roundw
          case rel => exact ⟨k + 1, by omega, by go_num, hown2, hbel'⟩
          case measure => simp [intOf]; omega
    · have hke : k = n := by omega
      subst hke
      have hcv := conv_own_any hown
      have hsz : (strN (bytesOf ls k)).size ≤ 1000000000 := by rw [strN_size, bytesOf_len]; omega
      have HSZ := Lib.hid hsz
      clear hsz
      obtain ⟨S, hS⟩ : ∃ S, S = strN (bytesOf ls k) := ⟨_, rfl⟩
      rw [← hS] at hcv HSZ
      have HS := Lib.hid hS
      clear hS
      go_wp2_with (go_at_call 40; refine (rPack_c _ _ HSZ.out).mono ?_; rintro e w2 ⟨v2, rfl, hown2, hb2⟩)
      obtain ⟨ao, cap, hv2, hsl⟩ := SlAt.of_own hown2
      rw [hv2]
      have hbw : Below w.heap.size w w2 := below_chain hbel hb2 hbel.size
      have hlen2 : (S.size + 7) / 8 ≤ 1000000000 := by have := HSZ.out; omega
      refine (Same_c ao a _ m cap ca _ ls _ hsl (ha.below hbw) hlen2 (by omega)).mono ?_
      rintro e w3 ⟨rfl, hb3⟩
      have hS : packL (bytesN S) = packL (bytesOf ls k) := by
        rw [HS.out, bytesN_strN]
        intro x hx
        simp only [bytesOf, List.mem_map] at hx
        obtain ⟨i, _, rfl⟩ := hx
        exact byteAt_lt ls i
      have hcv3 := conv_own_any (own_below (own_below hown hb2) hb3)
      rw [← HS.out] at hcv3
      rw [hS]
      have hbz : Below w.heap.size w w3 := below_chain hbw hb3 hbw.size
      clear hcv hS hv2 hsl
      cases hB : (packL (bytesOf ls k) == ls)
      · have HB := Lib.hid hB
        clear hB
        go_wp2_with fail
        go_ret2
        exact ⟨ret_sb (by rw [HB.out]; rfl) HB.out.symm, hbz⟩
      · have HB := Lib.hid hB
        clear hB
        go_wp2_with fail
        go_ret2
        exact ⟨ret_sb (by rw [HB.out]; exact HS.out) HB.out.symm, hbz⟩
end Go.Proofs.Ythibocdpbekbcaa
