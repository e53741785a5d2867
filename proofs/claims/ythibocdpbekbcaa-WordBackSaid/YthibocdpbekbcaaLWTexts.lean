/- WordTexts returns true for every input: any text has the reference's words, and any words its text, or none. -/
import Derived.Test.YthibocdpbekbcaaW02v
import Derived.Test.YthibocdpbekbcaaW02a
import Derived.Test.YthibocdpbekbcaaL00
import Derived.Test.YthibocdpbekbcaaOP
import Derived.Test.YthibocdpbekbcaaRows
namespace Go.Proofs.Ythibocdpbekbcaa
open Go.ChangeShapes Go.WideShapes Go.ChangeAt Go.RowKit
/-- whether so many bytes of words are a text, and which -/
def tOk (ls : List Nat) (n : Int) : Bool := decide (0 ≤ n) && decide (n ≤ 8 * (ls.length : Int)) && (packL (bytesOf ls n.toNat) == ls)
def tS (ls : List Nat) (n : Int) : ByteArray := unpS (tOk ls n) ls n.toNat
theorem Unpack_any (a : Option Addr) (m ca : Nat) (n : Int) (ls : List Nat) (w : World) (ha : SlAt w a 1 m (u64s ls)) (hu : ∀ x ∈ ls, x < 18446744073709551616) (hm : m ≤ 1000000) :
    Calls Try.prog 36 #[.slice a m ca, .int .i64 n] w fun e w' => e = .returned (.tuple #[.string (tS ls n), .int .i64 (okE (tOk ls n))]) ∧ Below w.heap.size w w' := by
  have lx : ls.length = m := by have := ha.len; simpa [u64s_len] using this
  by_cases h : n < 0 ∨ 8 * (m : Int) < n ∨ n ≤ 8 * ((m : Int) - 1)
  · have hno : tOk ls n = false := by
      unfold tOk
      by_cases h0 : n < 0 ∨ 8 * (m : Int) < n
      · rw [lx]
        have : (decide (0 ≤ n) && decide (n ≤ 8 * (m : Int))) = false := by simp; omega
        rw [this]; rfl
      · have hf : ¬ packL (bytesOf ls n.toNat) = ls := by
          rw [pack_bytesOf ls n.toNat hu (by rw [lx]; omega)]
          rintro ⟨k1, _⟩
          rw [lx] at k1
          omega
        rw [beq_eq_false_iff_ne.2 hf]; simp
    refine (Unpack_no a m ca n w hm h).mono ?_
    rintro e w' ⟨rfl, rfl⟩
    exact ⟨by unfold tS; rw [hno]; rfl, Below.refl _ _⟩
  · obtain ⟨k, rfl⟩ : ∃ k : Nat, n = k := ⟨n.toNat, by omega⟩
    have hok : tOk ls k = (packL (bytesOf ls k) == ls) := by
      unfold tOk
      rw [lx, Int.toNat_natCast]
      have : (decide ((0 : Int) ≤ k) && decide ((k : Int) ≤ 8 * (m : Int))) = true := by simp; omega
      rw [this]; rfl
    refine (Unpack_run a m ca k ls w ha hm (by omega) (by omega) (packL (bytesOf ls k) == ls) ?_).mono ?_
    · rw [beq_iff_eq]; exact pack_bytesOf ls k hu (by rw [lx]; omega)
    · rintro e w' ⟨rfl, hb⟩
      exact ⟨by unfold tS; rw [hok, Int.toNat_natCast], hb⟩
theorem rUnpack_any (a : Option Addr) (m ca : Nat) (n : Int) (ls : List Nat) (w : World) (ha : SlAt w a 1 m (u64s ls)) (hu : ∀ x ∈ ls, x < 18446744073709551616) (hm : m ≤ 1000000) :
    Calls Try.prog 37 #[.slice a m ca, .int .i64 n] w fun e w' => e = .returned (.tuple #[.string (tS ls n), .bool (tOk ls n)]) ∧ Below w.heap.size w w' := by
  have lx : ls.length = m := by have := ha.len; simpa [u64s_len] using this
  by_cases h : n < 0 ∨ 8 * (m : Int) < n
  · have hno : tOk ls n = false := by
      unfold tOk
      rw [lx]
      have : (decide (0 ≤ n) && decide (n ≤ 8 * (m : Int))) = false := by simp; omega
      rw [this]; rfl
    refine (rUnpack_no a m ca n w hm h).mono ?_
    rintro e w' ⟨rfl, rfl⟩
    exact ⟨by unfold tS; rw [hno]; rfl, Below.refl _ _⟩
  · obtain ⟨k, rfl⟩ : ∃ k : Nat, n = k := ⟨n.toNat, by omega⟩
    have hok : tOk ls k = (packL (bytesOf ls k) == ls) := by
      unfold tOk
      rw [lx, Int.toNat_natCast]
      have : (decide ((0 : Int) ≤ k) && decide ((k : Int) ≤ 8 * (m : Int))) = true := by simp; omega
      rw [this]; rfl
    refine (rUnpack_run a m ca k ls w ha hu hm (by omega)).mono ?_
    rintro e w' ⟨rfl, hb⟩
    exact ⟨by unfold tS; rw [hok, Int.toNat_natCast], hb⟩
theorem Pack_s (s : ByteArray) (w : World) (hs : s.size ≤ 1000000000) :
    Calls Try.prog 39 #[.string s] w fun e w' => ∃ ao cap, e = .returned (.slice ao ((s.size + 7) / 8) cap) ∧ SlAt w' ao 1 ((s.size + 7) / 8) (u64s (packL (bytesN s))) ∧ Below w.heap.size w w' := by
  refine (Pack_c s w hs).mono ?_
  rintro e w' ⟨v, rfl, hown, hb⟩
  obtain ⟨ao, cap, hv, hsl⟩ := SlAt.of_own hown
  exact ⟨ao, cap, by rw [hv], hsl, hb⟩
theorem rPack_s (s : ByteArray) (w : World) (hs : s.size ≤ 1000000000) :
    Calls Try.prog 40 #[.string s] w fun e w' => ∃ ao cap, e = .returned (.slice ao ((s.size + 7) / 8) cap) ∧ SlAt w' ao 1 ((s.size + 7) / 8) (u64s (packL (bytesN s))) ∧ Below w.heap.size w w' := by
  refine (rPack_c s w hs).mono ?_
  rintro e w' ⟨v, rfl, hown, hb⟩
  obtain ⟨ao, cap, hv, hsl⟩ := SlAt.of_own hown
  exact ⟨ao, cap, by rw [hv], hsl, hb⟩
set_option maxHeartbeats 1000000 in
theorem WordTexts_c (s : ByteArray) (a : Option Addr) (m ca : Nat) (n : Int) (ls : List Nat) (w : World) (ha : SlAt w a 1 m (u64s ls)) (hu : ∀ x ∈ ls, x < 18446744073709551616) :
    Calls Try.prog 7 #[.string s, .slice a m ca, .int .i64 n] w fun e w' => e = .returned (.bool true) ∧ Below w.heap.size w w' := by
  by_cases h1 : 500 < s.size
  · go_enter Try.func7, Try.ntmps7
    go_wp2_with (go_at_call 15; refine (awake02 _).mono ?_; rintro e w' ⟨rfl, hb⟩)
    go_ret
    exact ⟨rfl, hb⟩
  · by_cases h2 : 60 < m
    · go_enter Try.func7, Try.ntmps7
      go_wp2_with (go_at_call 15; refine (awake02 _).mono ?_; rintro e w' ⟨rfl, hb⟩)
      go_ret
      exact ⟨rfl, hb⟩
    · have HU := Lib.hid hu
      clear hu
      have e0 := okE_0 (tOk ls n)
      have e2 := okE_2 (tOk ls n)
      go_enter Try.func7, Try.ntmps7
      go_wp2_with (go_at_call 15; refine (awake02 _).mono ?_; rintro e w1 ⟨rfl, hb1⟩; have ha1 := ha.below hb1)
      refine (Unpack_any a m ca n ls _ ha1 HU.out (by omega)).mono ?_
      rintro e w2 ⟨rfl, hb2⟩
      have ha2 := ha1.below hb2
      go_wp2_with fail
      refine (rUnpack_any a m ca n ls _ ha2 HU.out (by omega)).mono ?_
      rintro e w3 ⟨rfl, hb3⟩
      go_wp2_with fail
      refine (Pack_s s _ (by omega)).mono ?_
      rintro e w4 ⟨ao4, c4, rfl, hs4, hb4⟩
      go_wp2_with fail
      refine (rPack_s s _ (by omega)).mono ?_
      rintro e w5 ⟨ao5, c5, rfl, hs5, hb5⟩
      go_wp2_with fail
      refine (Same_c ao4 ao5 _ _ c4 c5 _ _ _ (hs4.below hb5) hs5 (by omega) (by omega)).mono ?_
      rintro e w6 ⟨rfl, hb6⟩
      go_wp2_with fail
      go_ret
      exact ⟨rfl, bel_trans (bel_trans (bel_trans (bel_trans (bel_trans hb1 hb2) hb3) hb4) hb5) hb6⟩
theorem u64_nats (zs : List Int) (h : ∀ z ∈ zs, (Lit.int .u64 z).wf = true) : zs.map (Value.int .u64) = u64s (zs.map Int.toNat) ∧ ∀ x ∈ zs.map Int.toNat, x < 18446744073709551616 := by
  constructor
  · unfold u64s
    rw [List.map_map]
    apply List.map_congr_left
    intro z hz
    have := bounds_u64 (h z hz)
    simp; omega
  · intro x hx
    rw [List.mem_map] at hx
    obtain ⟨z, hz, rfl⟩ := hx
    have := bounds_u64 (h z hz)
    omega
theorem cellsU64 : Try.prog.cellsOf 22 = 1 := by kernel_rfl
theorem wordTexts_own : ownKnob Try.prog.godebug = none := by kernel_rfl
theorem wordTexts_laidOut : laidOutB Try.prog = true := by kernel_rfl
set_option maxRecDepth 100000 in
theorem wordTexts_lifted (os : Os) (started : os.Started) (H : Type) (enc : TypeId × Value → H) :
    ReturnsInHanded {} Try.checked os 7 .any (Rows.wordTextsSpec.pre6 enc Try.prog Try.f7 Rows.wordTextsRow.domain false) (Rows.wordTextsSpec.post enc Try.prog Try.f7 false true false false) := by
  refine returnsInHanded_of_change_sized (C := Try.checked) wordTexts_own started (by kernel_rfl) Try.func7
    (ChangeSpec.witness6 (enc := enc) (C := Try.checked) false ⟨#[], #[.string ⟨#[]⟩, .slice none 0 0, .int .i64 0], []⟩ 8 (by kernel_rfl) (by kernel_rfl) (by kernel_rfl) (by kernel_rfl)) ?_
  intro W base args ds gs before hval0 hW hcnd hsz0 _
  have hval : ∀ (j : Nat) t v, Try.f7.params[j]? = some t → args[j]? = some v → Value.okWide Try.prog W .any base t v := hval0
  have hsz : (DataW.weightsEach Try.prog (Try.f7.params.toList ++ Rows.wordTextsSpec.plain.varTypes Try.prog) (ds ++ gs)).all (· ≤ reachBytes) = true := hsz0
  have hW' := hW
  obtain ⟨p, q, hA0, hV, rfl, hfz, hnd⟩ := hW
  have hA : DataW.TrodAll enc Try.prog W 0 (fun _ => true) true Try.f7.params.toList args.toList ds p := hA0
  rw [Try.params7] at hA hval hsz
  obtain ⟨rfl, rfl⟩ := trodVars_none hV
  obtain ⟨v0, v1, v2, d0, d1, d2, p0, p1, p2, rfl, rfl, rfl, h0, h1, h2⟩ := trodAll_three hA
  obtain ⟨s, rfl, rfl, rfl, hs⟩ := Go.ChangeMaps.open_string Try.underlying9 (hval 0 9 v0 rfl rfl) h0
  obtain ⟨ao, m, ca, zs, rfl, hsl, hmc, hcm, hwz⟩ := open_intSlice Try.underlying46 Try.underlying22 cellsU64 (hval 1 46 v1 rfl rfl) h1
  obtain ⟨n, rfl, rfl, rfl, w_n⟩ := open_int Try.underlying3 (hval 2 3 v2 rfl rfl) h2
  rw [(u64_nats zs hwz).1] at hsl
  refine (WordTexts_c s ao m ca n _ W hsl (u64_nats zs hwz).2).mono fun e W' ⟨he, hb⟩ => ?_
  subst he
  exact ⟨_, rfl, law_post (tb := 4) wordTexts_laidOut (by kernel_rfl) (by kernel_rfl) Try.underlying4 rfl rfl rfl rfl hW' hb⟩
theorem wordTexts_holds : Rows.WordTextsSaid :=
  OpenClaim.holds_of_wide 7 Try.f7 rfl rfl rfl rfl rfl rfl rfl ⟨rfl, rfl, rfl, rfl, rfl⟩ rfl rfl rfl rfl rfl (by kernel_rfl) Try.func7 (by kernel_rfl)
    (of_decide_eq_true (by kernel_rfl)) (by unfold Func.isWrapper; first | (rw [if_pos (by decide +kernel)]; kernel_rfl) | (rw [if_neg (by decide +kernel)]; exact ⟨rfl, rfl⟩))
    (fun os started H enc _ => wordTexts_lifted os started H enc)
#print axioms wordTexts_holds
end Go.Proofs.Ythibocdpbekbcaa
