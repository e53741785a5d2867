/- int63.digits and int63.Parse at what Text writes. -/
import Derived.Test.YthibocdpbekbcaaW01t
namespace Go.Proofs.Ythibocdpbekbcaa
open Go.RowKit
/-- the value of digits -/
def valL (ds : List Int) : Int := ds.foldl (fun n d => 10 * n + (d - 48)) 0
theorem valL_snoc (ds : List Int) (k : Nat) (h : k < ds.length) : valL (ds.take (k + 1)) = 10 * valL (ds.take k) + (ds[k] - 48) := by
  unfold valL; rw [List.take_succ_eq_append_getElem h, List.foldl_append]; rfl
/-- digits that Parse reads as a number up to 2^62 -/
structure Digs (s : ByteArray) (ds : List Int) : Prop where
  len : s.size = ds.length
  one : 1 ≤ ds.length
  rng : ∀ k (h : k < ds.length), 48 ≤ ds[k] ∧ ds[k] ≤ 57
  get : ∀ k (h : k < s.size) (h' : k < ds.length), (s[k].toNat : Int) = ds[k]
  lead : 1 < ds.length → ∀ h : 0 < ds.length, ds[0] ≠ 48
  pre : ∀ k, k ≤ ds.length → 0 ≤ valL (ds.take k) ∧ valL (ds.take k) ≤ 4611686018427387904
set_option maxHeartbeats 400000 in
theorem digits_c (s : ByteArray) (ds : List Int) (w : World) (h : Digs s ds) (hmax : s.size ≤ 1000) :
    Calls Try.prog 63 #[.string s] w fun e w' => e = .returned (.tuple #[.int .u64 (valL ds), .bool false, .bool true]) ∧ w = w' := by
  have h1 := h.one
  have hs1 : 1 ≤ s.size := by have := h.len; omega
  have hne : s.toList.isEmpty = false := by
    rw [List.isEmpty_eq_false_iff, ByteArray.toList_eq]; intro e
    have : s.data.toList.length = s.size := rfl
    rw [e] at this; simp at this; omega
  have h0 : (1 < s.size → ((s[0]'(by omega)).toNat : Int) ≠ 48) := by
    intro hh; rw [h.get 0 (by omega) (by omega)]; exact h.lead (by have := h.len; omega) (by omega)
  by_cases hlt : 1 < s.size
  · have hq := h0 hlt
    have hq' : (((s[0]'(by omega)).toNat : Int) == 48) = false := by simpa using hq
    clear h0 hq
    go_enter Try.func63, Try.ntmps63
    go_wp2
    go_loop [2, 3, 20] (fun vn vg vi => ∃ k : Nat, k ≤ ds.length ∧ vi = .int .i64 k ∧ vn = .int .u64 (valL (ds.take k)) ∧ vg = .bool false) (fun _ _ vi => s.size - (intOf vi).toNat)
    case atStart => exact ⟨0, Nat.zero_le _, rfl, rfl, rfl⟩
    case round =>
      obtain ⟨k, hk, rfl, rfl, rfl⟩ := hrel
      by_cases hks : k < s.size
      · have hkd : k < ds.length := by have := h.len; omega
        obtain ⟨d, hd⟩ : ∃ d, d = ds[k] := ⟨_, rfl⟩
        have hg : ((s[k]'hks).toNat : Int) = d := by rw [hd]; exact h.get k hks hkd
        have hr1 : 48 ≤ d := by rw [hd]; exact (h.rng k hkd).1
        have hr2 : d ≤ 57 := by rw [hd]; exact (h.rng k hkd).2
        have hsn := valL_snoc ds k hkd
        rw [← hd] at hsn
        have hp := h.pre (k + 1) (by omega)
        have hp0 := (h.pre k (by omega)).1
        obtain ⟨v, hv⟩ : ∃ v, v = valL (ds.take k) := ⟨_, rfl⟩
        rw [← hv] at hsn hp0 ⊢
        rw [hsn] at hp
        obtain ⟨hp1, hp2⟩ := hp
        have HV := Lib.hid hsn
        clear hv hd hsn
        have hgr : decide (4611686018427387904 < 10 * v + (d - 48)) = false := by simp; omega
        go_wp2
        go_round
        case rel => exact ⟨k + 1, by omega, by go_num, by rw [HV.out], rfl⟩
        case measure => simp [intOf]; omega
      · have hkl : k = ds.length := by have := h.len; omega
        have HK := Lib.hid hkl
        clear hkl
        go_wp2
        go_ret3
        exact ⟨by rw [HK.out, List.take_length]; rfl, rfl⟩
  · have hq : s.size ≤ 1 := by omega
    clear h0
    go_enter Try.func63, Try.ntmps63
    go_wp2
    go_loop [2, 3, 20] (fun vn vg vi => ∃ k : Nat, k ≤ ds.length ∧ vi = .int .i64 k ∧ vn = .int .u64 (valL (ds.take k)) ∧ vg = .bool false) (fun _ _ vi => s.size - (intOf vi).toNat)
    case atStart => exact ⟨0, Nat.zero_le _, rfl, rfl, rfl⟩
    case round =>
      obtain ⟨k, hk, rfl, rfl, rfl⟩ := hrel
      by_cases hks : k < s.size
      · have hkd : k < ds.length := by have := h.len; omega
        obtain ⟨d, hd⟩ : ∃ d, d = ds[k] := ⟨_, rfl⟩
        have hg : ((s[k]'hks).toNat : Int) = d := by rw [hd]; exact h.get k hks hkd
        have hr1 : 48 ≤ d := by rw [hd]; exact (h.rng k hkd).1
        have hr2 : d ≤ 57 := by rw [hd]; exact (h.rng k hkd).2
        have hsn := valL_snoc ds k hkd
        rw [← hd] at hsn
        have hp := h.pre (k + 1) (by omega)
        have hp0 := (h.pre k (by omega)).1
        obtain ⟨v, hv⟩ : ∃ v, v = valL (ds.take k) := ⟨_, rfl⟩
        rw [← hv] at hsn hp0 ⊢
        rw [hsn] at hp
        obtain ⟨hp1, hp2⟩ := hp
        have HV := Lib.hid hsn
        clear hv hd hsn
        have hgr : decide (4611686018427387904 < 10 * v + (d - 48)) = false := by simp; omega
        go_wp2
        go_round
        case rel => exact ⟨k + 1, by omega, by go_num, by rw [HV.out], rfl⟩
        case measure => simp [intOf]; omega
      · have hkl : k = ds.length := by have := h.len; omega
        have HK := Lib.hid hkl
        clear hkl
        go_wp2
        go_ret3
        exact ⟨by rw [HK.out, List.take_length]; rfl, rfl⟩
set_option maxHeartbeats 400000 in
theorem Parse_pos (s : ByteArray) (ds : List Int) (w : World) (h : Digs s ds) (hmax : s.size ≤ 1000) (hv : valL ds ≤ 4611686018427387903) :
    Calls Try.prog 57 #[.string s] w fun e w' => e = .returned (.tuple #[.int .i64 (valL ds), .int .i64 0]) ∧ w = w' := by
  have hs1 : 0 < s.size := by have := h.len; have := h.one; omega
  have hq : (((s[0]'hs1).toNat : Int) == 45) = false := by
    rw [h.get 0 hs1 h.one]
    have := (h.rng 0 h.one).1
    simp; omega
  have hv0 : 0 ≤ valL ds := by have := (h.pre ds.length (Nat.le_refl _)).1; rwa [List.take_length] at this
  have hv1 : (valL ds == 4611686018427387904) = false := by simp; omega
  go_enter Try.func57, Try.ntmps57
  go_wp2_with (go_at_call 63; refine (digits_c _ ds _ h (by omega)).mono ?_; rintro e w' ⟨rfl, rfl⟩)
  go_ret2
  exact ⟨rfl, rfl⟩
set_option maxHeartbeats 400000 in
theorem Parse_neg (s s' : ByteArray) (ds : List Int) (w : World) (hs1 : 0 < s.size) (hq0 : (s[0]).toNat = 45) (he : s.extract 1 s.size = s') (h : Digs s' ds) (hmax : s.size ≤ 1000) (hz : (s'.toList == [48]) = false) :
    Calls Try.prog 57 #[.string s] w fun e w' => e = .returned (.tuple #[.int .i64 (-(valL ds)), .int .i64 0]) ∧ w = w' := by
  have hq : (((s[0]'hs1).toNat : Int) == 45) = true := by simp; omega
  have hv0 : 0 ≤ valL ds := by have := (h.pre ds.length (Nat.le_refl _)).1; rwa [List.take_length] at this
  have hv1 : valL ds ≤ 4611686018427387904 := by have := (h.pre ds.length (Nat.le_refl _)).2; rwa [List.take_length] at this
  have hm' : s'.size ≤ 1000 := by rw [← he]; simp; omega
  go_enter Try.func57, Try.ntmps57
  go_wp2_with (go_at_call 63; refine (digits_c _ ds _ h (by omega)).mono ?_; rintro e w' ⟨rfl, rfl⟩)
  go_ret2
  exact ⟨rfl, rfl⟩
end Go.Proofs.Ythibocdpbekbcaa
