/- HeapNone returns true for every input. -/
import Derived.Test.YtecpnlhjjmcllaaW31a
import Derived.Test.YtecpnlhjjmcllaaL00
import Derived.Test.YtecpnlhjjmcllaaOP
import Derived.Test.YtecpnlhjjmcllaaRows

namespace Go.Proofs.Ytecpnlhjjmcllaa
open Go.ChangeShapes Go.WideShapes Go.ChangeAt Go.RowKit
theorem u64_nats (zs : List Int) (h : ∀ z ∈ zs, (Lit.int .u64 z).wf = true) : zs.map (Value.int .u64) = u64s (zs.map Int.toNat) ∧ ∀ x ∈ zs.map Int.toNat, x < 18446744073709551616 := by
  constructor
  · unfold u64s
    rw [List.map_map]
    apply List.map_congr_left
    intro z hz
    have := bounds_u64 (h z hz)
    simp; omega
  · intro x hx
    rw [List.mem_map] at hx
    obtain ⟨z, hz, rfl⟩ := hx
    have := bounds_u64 (h z hz)
    omega
theorem cellsU64 : Try.prog.cellsOf 42 = 1 := by kernel_rfl
set_option maxHeartbeats 1000000 in
theorem HeapNone_c (x i : Int) (ao : Option Addr) (m ca : Nat) (xs : List Nat) (w : World) (ha : SlAt w ao 1 m (u64s xs)) :
    Calls Try.prog 5 #[.int .u64 x, .int .i64 i, .slice ao m ca] w fun e w' => e = .returned (.bool true) ∧ Below w.heap.size w w' := by
  by_cases hm : 100 < m
  · have i1 : decide ((100 : Int) < (m : Int)) = true := by simp; omega
    have i2 : decide (100 < m) = true := by simp; omega
    go_enter Try.func5, Try.ntmps5
    go_wp2_with (go_at_call 10; refine (awake31 _).mono ?_; rintro e w1 ⟨rfl, hb⟩)
    go_ret
    exact ⟨rfl, hb⟩
  · have i1 : decide ((100 : Int) < (m : Int)) = false := by simp; omega
    have i2 : decide (100 < m) = false := by simp; omega
    have i3 : ((m : Int) != (m : Int)) = false := by simp
    go_enter Try.func5, Try.ntmps5
    go_wp2_with (first
      | (go_at_call 10; refine (awake31 _).mono ?_; rintro e w1 ⟨rfl, hb⟩)
      | (go_at_call 22; refine (Alloc_none _ _).mono ?_; rintro e w2 ⟨rfl, j, rfl⟩)
      | (go_at_call 18; refine (Look_none _ _).mono ?_; rintro e w2 ⟨rfl, rfl⟩)
      | (go_at_call 23; refine (Part_none _ _ _).mono ?_; rintro e w2 ⟨rfl, rfl⟩)
      | (go_at_call 20; refine (Collect_none _ _).mono ?_; rintro e w2 ⟨rfl, rfl⟩))
    go_loopg [54] m (fun gk vi wr => ∃ k : Nat, k ≤ m ∧ gk = m - k ∧ vi = .int .i64 k ∧ Below w.heap.size w wr)
    case atStart => exact ⟨0, Nat.zero_le _, rfl, rfl, below_drewN (hb.alloc hb.size _) _⟩
    case round =>
      obtain ⟨k, hk, rfl, rfl, hbel⟩ := hrel
      by_cases hkm : k < m
      · obtain ⟨b, o, e, hc⟩ := (ha.below hbel).get (by omega)
        subst e
        have hl : k < xs.length := by have := ha.len; simp [u64s] at this; omega
        have c1 : wr.cell? ⟨b, o + k, none⟩ = some (.int .u64 (xs[k] : Nat)) := by rw [hc k (by omega)]; simp [u64s, hl]
        obtain ⟨y, hy⟩ : ∃ y, y = xs[k] := ⟨_, rfl⟩
        rw [← hy] at c1
        clear hy hc
        have i4 : (k : Int) < (m : Int) := by omega
        have i5 : ((y : Int) != (y : Int)) = false := by simp
        go_wp2_with fail
        go_quiet (fail)
        go_wp2_with fail
        go_roundg (m - (k + 1))
        case measure => omega
        case rel => exact ⟨k + 1, by omega, rfl, by go_num, below_drewN hbel _⟩
      · have hkk : k = m := by omega
        subst hkk
        go_wp2_with (first
          | (go_at_call 24; refine (Set_none _ _ _ _).mono ?_; rintro e w2 ⟨rfl, rfl⟩)
          | (go_at_call 25; refine (Room_none _ _).mono ?_; rintro e w2 ⟨rfl, j2, rfl⟩)
          | (go_at_call 15; refine (Used_none _).mono ?_; rintro e w2 ⟨rfl, rfl⟩))
        go_ret
        exact ⟨rfl, below_drewN hbel _⟩
theorem heapNone_own : ownKnob Try.prog.godebug = none := by kernel_rfl
theorem heapNone_laidOut : laidOutB Try.prog = true := by kernel_rfl
set_option maxRecDepth 100000 in
theorem heapNone_lifted (os : Os) (started : os.Started) (H : Type) (enc : TypeId × Value → H) :
    ReturnsInHanded {} Try.checked os 5 .any (Rows.heapNoneSpec.pre6 enc Try.prog Try.f5 Rows.heapNoneRow.domain false) (Rows.heapNoneSpec.post enc Try.prog Try.f5 false true false false) := by
  refine returnsInHanded_of_change_sized (C := Try.checked) heapNone_own started (by kernel_rfl) Try.func5
    (ChangeSpec.witness6 (enc := enc) (C := Try.checked) false ⟨#[], #[.int .u64 0, .int .i64 0, .slice none 0 0], []⟩ 8 (by kernel_rfl) (by kernel_rfl) (by kernel_rfl) (by kernel_rfl)) ?_
  intro W base args ds gs before hval0 hW hcnd hsz0 _
  have hval : ∀ (j : Nat) t v, Try.f5.params[j]? = some t → args[j]? = some v → Value.okWide Try.prog W .any base t v := hval0
  have hsz : (DataW.weightsEach Try.prog (Try.f5.params.toList ++ Rows.heapNoneSpec.plain.varTypes Try.prog) (ds ++ gs)).all (· ≤ reachBytes) = true := hsz0
  have hW' := hW
  obtain ⟨p, q, hA0, hV, rfl, hfz, hnd⟩ := hW
  have hA : DataW.TrodAll enc Try.prog W 0 (fun _ => true) true Try.f5.params.toList args.toList ds p := hA0
  rw [Try.params5] at hA hval hsz
  obtain ⟨rfl, rfl⟩ := trodVars_none hV
  obtain ⟨v0, v1, v2, d0, d1, d2, p0, p1, p2, rfl, rfl, rfl, h0, h1, h2⟩ := trodAll_three hA
  obtain ⟨x, rfl, rfl, rfl, w_x⟩ := open_int Try.underlying42 (hval 0 42 v0 rfl rfl) h0
  obtain ⟨n, rfl, rfl, rfl, w_n⟩ := open_int Try.underlying3 (hval 1 3 v1 rfl rfl) h1
  obtain ⟨ao, m, ca, zs, rfl, hsl, hmc, hcm, hwz⟩ := open_intSlice Try.underlying34 Try.underlying42 cellsU64 (hval 2 34 v2 rfl rfl) h2
  rw [(u64_nats zs hwz).1] at hsl
  refine (HeapNone_c x n ao m ca _ W hsl).mono fun e W' ⟨he, hb⟩ => ?_
  subst he
  exact ⟨_, rfl, law_post (tb := 4) heapNone_laidOut (by kernel_rfl) (by kernel_rfl) Try.underlying4 rfl rfl rfl rfl hW' hb⟩
theorem heapNone_holds : Rows.HeapNoneSaid :=
  OpenClaim.holds_of_wide 5 Try.f5 rfl rfl rfl rfl rfl rfl rfl ⟨rfl, rfl, rfl, rfl, rfl⟩ rfl rfl rfl rfl rfl (by kernel_rfl) Try.func5 (by kernel_rfl)
    (of_decide_eq_true (by kernel_rfl)) (by unfold Func.isWrapper; first | (rw [if_pos (by decide +kernel)]; kernel_rfl) | (rw [if_neg (by decide +kernel)]; exact ⟨rfl, rfl⟩))
    (fun os started H enc _ => heapNone_lifted os started H enc)
#print axioms heapNone_holds
end Go.Proofs.Ytecpnlhjjmcllaa
