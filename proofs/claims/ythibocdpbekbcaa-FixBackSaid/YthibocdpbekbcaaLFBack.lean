/- FixBack returns true for every input: each operator is applied once, to what stands beside it, and no operand would have to stand in brackets. -/
import Derived.Test.YthibocdpbekbcaaW04b
import Derived.Test.YthibocdpbekbcaaL00
import Derived.Test.YthibocdpbekbcaaOP
import Derived.Test.YthibocdpbekbcaaRows
namespace Go.Proofs.Ythibocdpbekbcaa
open Go.ChangeShapes Go.WideShapes Go.ChangeAt Go.RowKit
theorem first_clash (L : Nat → Nat) (n : Nat) (h : ¬ ∀ j, j < n → ¬ clashAt L j) : ∃ k, k < n ∧ clashAt L k ∧ ∀ j, j < k → ¬ clashAt L j := by
  induction n with
  | zero => exact absurd (fun j hj => by omega) h
  | succ n ih =>
    by_cases h1 : ∀ j, j < n → ¬ clashAt L j
    · refine ⟨n, by omega, ?_, h1⟩
      by_cases h2 : clashAt L n
      · exact h2
      · exact absurd (fun j hj => by
          by_cases e : j = n
          · subst e; exact h2
          · exact h1 j (by omega)) h
    · obtain ⟨k, h2, h3⟩ := ih h1
      exact ⟨k, by omega, h3⟩
theorem Order_no (ao : Option Addr) (n ca k : Nat) (ss : List ByteArray) (w : World) (ha : SlAt w ao 1 n (strsV ss)) (hn : n ≤ 1000000) (hk : k < n) (hc : clashAt (lvAt ss) k) :
    Calls Try.prog 49 #[.slice ao n ca] w fun e w' => ∃ i : Nat, e = .returned (.tuple #[.slice none 0 0, .int .i64 (i : Nat), .int .i64 112]) ∧ Below w.heap.size w w' := by
  refine (Order_c ao n ca ss w ha hn).mono ?_
  rintro e w' ⟨hb, ⟨st, out, v, hr, rfl, hown⟩ | ⟨i, st, out, hi, hr, hd, rfl⟩⟩
  · exact absurd hc ((order_ok _ hr).2 k hk)
  · exact ⟨i, rfl, hb⟩
set_option maxRecDepth 100000 in
set_option maxHeartbeats 1000000 in
theorem FixBack_c (ao : Option Addr) (n ca : Nat) (ss : List ByteArray) (w : World) (ha : SlAt w ao 1 n (strsV ss)) : Calls Try.prog 13 #[.slice ao n ca] w fun e w' => e = .returned (.bool true) ∧ Below w.heap.size w w' := by
  by_cases h1 : 100 < n
  · go_enter Try.func13, Try.ntmps13
    go_wp2_with fail
    refine (awake04 _).mono ?_
    rintro e w1 ⟨rfl, hb1⟩
    go_wp2_with fail
    go_ret
    exact ⟨rfl, hb1⟩
  · by_cases hc : ∀ j, j < n → ¬ clashAt (lvAt ss) j
    · exact FixBack_ok ao n ca ss w ha (by omega) hc
    · obtain ⟨k, hk, hcl, -⟩ := first_clash _ _ hc
      clear hc
      go_enter Try.func13, Try.ntmps13
      go_wp2_with fail
      refine (awake04 _).mono ?_
      rintro e w1 ⟨rfl, hb1⟩
      go_wp2_with fail
      refine (Order_no ao n ca k ss _ (ha.below hb1) (by omega) hk hcl).mono ?_
      rintro e w2 ⟨i, rfl, hb2⟩
      go_wp2_with fail
      go_ret
      exact ⟨rfl, bel_trans hb1 hb2⟩
theorem cellsStr : Try.prog.cellsOf 9 = 1 := by kernel_rfl
theorem fixBack_own : ownKnob Try.prog.godebug = none := by kernel_rfl
theorem fixBack_laidOut : laidOutB Try.prog = true := by kernel_rfl
set_option maxRecDepth 100000 in
theorem fixBack_lifted (os : Os) (started : os.Started) (H : Type) (enc : TypeId × Value → H) :
    ReturnsInHanded {} Try.checked os 13 .any (Rows.fixBackSpec.pre6 enc Try.prog Try.f13 Rows.fixBackRow.domain false) (Rows.fixBackSpec.post enc Try.prog Try.f13 false true false false) := by
  refine returnsInHanded_of_change_sized (C := Try.checked) fixBack_own started (by kernel_rfl) Try.func13
    (ChangeSpec.witness6 (enc := enc) (C := Try.checked) false ⟨#[], #[.slice none 0 0], []⟩ 8 (by kernel_rfl) (by kernel_rfl) (by kernel_rfl) (by kernel_rfl)) ?_
  intro W base args ds gs before hval0 hW hcnd hsz0 _
  have hval : ∀ (j : Nat) t v, Try.f13.params[j]? = some t → args[j]? = some v → Value.okWide Try.prog W .any base t v := hval0
  have hsz : (DataW.weightsEach Try.prog (Try.f13.params.toList ++ Rows.fixBackSpec.plain.varTypes Try.prog) (ds ++ gs)).all (· ≤ reachBytes) = true := hsz0
  have hW' := hW
  obtain ⟨p, q, hA0, hV, rfl, hfz, hnd⟩ := hW
  have hA : DataW.TrodAll enc Try.prog W 0 (fun _ => true) true Try.f13.params.toList args.toList ds p := hA0
  rw [Try.params13] at hA hval hsz
  obtain ⟨rfl, rfl⟩ := trodVars_none hV
  obtain ⟨v0, d0, rfl, rfl, h0⟩ := trodAll_one hA
  obtain ⟨ao, n, ca, ss, rfl, hsl, hmc, hcm, hws⟩ := open_strSlice Try.underlying61 Try.underlying9 cellsStr (hval 0 61 v0 rfl rfl) h0
  refine (FixBack_c ao n ca ss W hsl).mono fun e W' ⟨he, hb⟩ => ?_
  subst he
  exact ⟨_, rfl, law_post (tb := 4) fixBack_laidOut (by kernel_rfl) (by kernel_rfl) Try.underlying4 rfl rfl rfl rfl hW' hb⟩
theorem fixBack_holds : Rows.FixBackSaid :=
  OpenClaim.holds_of_wide 13 Try.f13 rfl rfl rfl rfl rfl rfl rfl ⟨rfl, rfl, rfl, rfl, rfl⟩ rfl rfl rfl rfl rfl (by kernel_rfl) Try.func13 (by kernel_rfl)
    (of_decide_eq_true (by kernel_rfl)) (by unfold Func.isWrapper; first | (rw [if_pos (by decide +kernel)]; kernel_rfl) | (rw [if_neg (by decide +kernel)]; exact ⟨rfl, rfl⟩))
    (fun os started H enc _ => fixBack_lifted os started H enc)
#print axioms fixBack_holds
end Go.Proofs.Ythibocdpbekbcaa
