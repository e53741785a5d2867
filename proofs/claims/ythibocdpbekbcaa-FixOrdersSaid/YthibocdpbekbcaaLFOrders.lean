/- FixOrders returns true for every input: any operators are applied in the reference's order, or clash where it says. -/
import Derived.Test.YthibocdpbekbcaaW04a
import Derived.Test.YthibocdpbekbcaaL00
import Derived.Test.YthibocdpbekbcaaOP
import Derived.Test.YthibocdpbekbcaaRows
import Derived.Deep.QuietTactic
import Derived.BigQuiet
namespace Go.Proofs.Ythibocdpbekbcaa
open Go.ChangeShapes Go.WideShapes Go.ChangeAt Go.RowKit
theorem Order_s (ao : Option Addr) (n ca : Nat) (ss : List ByteArray) (w : World) (ha : SlAt w ao 1 n (strsV ss)) (hn : n ≤ 1000000) (h : ∀ j, j < n → ¬ clashAt (lvAt ss) j) :
    Calls Try.prog 49 #[.slice ao n ca] w fun e w' => ∃ a' c', e = .returned (.tuple #[.slice a' n c', .int .i64 0, .int .i64 0]) ∧ SlAt w' a' 1 n (intsN (ord (lvAt ss) 0 n)) ∧ Below w.heap.size w w' := by
  refine (Order_c ao n ca ss w ha hn).mono ?_
  rintro e w' ⟨hb, ⟨st, out, v, hr, rfl, hown⟩ | ⟨i, st, out, hi, hr, hd, rfl⟩⟩
  · obtain ⟨a', c', hv, hsl⟩ := SlAt.of_own hown
    rw [(order_ok _ hr).1] at hsl
    exact ⟨a', c', by rw [hv], hsl, hb⟩
  · exact absurd (order_clash _ hr hd).1 (h i hi)
theorem Order_x (ao : Option Addr) (n ca k : Nat) (ss : List ByteArray) (w : World) (ha : SlAt w ao 1 n (strsV ss)) (hn : n ≤ 1000000) (hk : k < n) (hc : clashAt (lvAt ss) k) (h : ∀ j, j < k → ¬ clashAt (lvAt ss) j) :
    Calls Try.prog 49 #[.slice ao n ca] w fun e w' => e = .returned (.tuple #[.slice none 0 0, .int .i64 (k : Nat), .int .i64 112]) ∧ Below w.heap.size w w' := by
  refine (Order_c ao n ca ss w ha hn).mono ?_
  rintro e w' ⟨hb, ⟨st, out, v, hr, rfl, hown⟩ | ⟨i, st, out, hi, hr, hd, rfl⟩⟩
  · exact absurd hc ((order_ok _ hr).2 k hk)
  · obtain ⟨h1, h2⟩ := order_clash _ hr hd
    have : i = k := by
      rcases Nat.lt_trichotomy i k with q | q | q
      · exact absurd h1 (h i q)
      · exact q
      · exact absurd hc (h2 k q)
    subst this
    exact ⟨rfl, hb⟩
theorem Clash_s (ao : Option Addr) (n ca : Nat) (ss : List ByteArray) (w : World) (ha : SlAt w ao 1 n (strsV ss)) (hn : n ≤ 1000000) (h : ∀ j, j < n → ¬ clashAt (lvAt ss) j) :
    Calls Try.prog 50 #[.slice ao n ca] w fun e w' => e = .returned (.int .i64 (-1)) ∧ Below w.heap.size w w' := by
  refine (Clash_c ao n ca ss w ha hn).mono ?_
  rintro e w' ⟨c, rfl, ⟨rfl, _⟩ | ⟨k, hk, rfl, hc, _⟩, hb⟩
  · exact ⟨rfl, hb⟩
  · exact absurd hc (h k hk)
theorem Clash_x (ao : Option Addr) (n ca k : Nat) (ss : List ByteArray) (w : World) (ha : SlAt w ao 1 n (strsV ss)) (hn : n ≤ 1000000) (hk : k < n) (hc : clashAt (lvAt ss) k) (h : ∀ j, j < k → ¬ clashAt (lvAt ss) j) :
    Calls Try.prog 50 #[.slice ao n ca] w fun e w' => e = .returned (.int .i64 (k : Nat)) ∧ Below w.heap.size w w' := by
  refine (Clash_c ao n ca ss w ha hn).mono ?_
  rintro e w' ⟨c, rfl, ⟨rfl, h1⟩ | ⟨i, hi, rfl, h1, h2⟩, hb⟩
  · exact absurd hc (h1 k hk)
  · have : i = k := by
      rcases Nat.lt_trichotomy i k with q | q | q
      · exact absurd h1 (h i q)
      · exact q
      · exact absurd hc (h2 k q)
    subst this
    exact ⟨rfl, hb⟩
theorem rOrder_s (ao : Option Addr) (n ca : Nat) (ss : List ByteArray) (w : World) (ha : SlAt w ao 1 n (strsV ss)) (hn : n ≤ 1000000) :
    Calls Try.prog 51 #[.slice ao n ca, .int .i64 0, .int .i64 (n : Nat)] w fun e w' => ∃ a' c', e = .returned (.slice a' n c') ∧ SlAt w' a' 1 n (intsN (ord (lvAt ss) 0 n)) ∧ Below w.heap.size w w' := by
  refine (rOrder_c ss ca n hn n 0 n ao w (by omega) (by omega) (by omega) ha).mono ?_
  rintro e w' ⟨v, rfl, hown, hb⟩
  obtain ⟨a', c', hv, hsl⟩ := SlAt.of_own hown
  exact ⟨a', c', by rw [hv]; rfl, hsl, hb⟩
theorem first_clash (L : Nat → Nat) (n : Nat) (h : ¬ ∀ j, j < n → ¬ clashAt L j) : ∃ k, k < n ∧ clashAt L k ∧ ∀ j, j < k → ¬ clashAt L j := by
  induction n with
  | zero => exact absurd (fun j hj => by omega) h
  | succ n ih =>
    by_cases h1 : ∀ j, j < n → ¬ clashAt L j
    · refine ⟨n, by omega, ?_, h1⟩
      by_cases h2 : clashAt L n
      · exact h2
      · exact absurd (fun j hj => by
          by_cases e : j = n
          · subst e; exact h2
          · exact h1 j (by omega)) h
    · obtain ⟨k, h2, h3⟩ := ih h1
      exact ⟨k, by omega, h3⟩
set_option maxRecDepth 100000 in
set_option maxHeartbeats 2000000 in
theorem FixOrders_c (ao : Option Addr) (n ca : Nat) (ss : List ByteArray) (w : World) (ha : SlAt w ao 1 n (strsV ss)) : Calls Try.prog 10 #[.slice ao n ca] w fun e w' => e = .returned (.bool true) ∧ Below w.heap.size w w' := by
  by_cases h1 : 100 < n
  · go_enter Try.func10, Try.ntmps10
    go_wp2_with fail
    refine (awake04 _).mono ?_
    rintro e w1 ⟨rfl, hb1⟩
    go_wp2_with fail
    go_ret
    exact ⟨rfl, hb1⟩
  · by_cases hc : ∀ j, j < n → ¬ clashAt (lvAt ss) j
    · have HC := Lib.hid hc
      clear hc
      have lo : (ord (lvAt ss) 0 n).length = n := ord_len _ 0 n (by omega)
      obtain ⟨l, hl⟩ : ∃ l, l = ord (lvAt ss) 0 n := ⟨_, rfl⟩
      rw [← hl] at lo
      have HL := Lib.hid hl
      have LO := Lib.hid lo
      clear hl lo
      go_enter Try.func10, Try.ntmps10
      go_wp2_with fail
      refine (awake04 _).mono ?_
      rintro e w1 ⟨rfl, hb1⟩
      go_wp2_with fail
      refine (Order_s ao n ca ss _ (ha.below hb1) (by omega) HC.out).mono ?_
      rintro e w2 ⟨a2, c2, rfl, hs2, hb2⟩
      have hb12 := bel_trans hb1 hb2
      go_wp2_with fail
      refine (Clash_s ao n ca ss _ (ha.below hb12) (by omega) HC.out).mono ?_
      rintro e w3 ⟨rfl, hb3⟩
      have hb13 := bel_trans hb12 hb3
      go_wp2_with fail
      refine (rOrder_s ao n ca ss _ (ha.below hb13) (by omega)).mono ?_
      rintro e w4 ⟨a4, c4, rfl, hs4, hb4⟩
      have hb14 := bel_trans hb13 hb4
      have hs2' := (hs2.below hb3).below hb4
      rw [← HL.out] at hs2' hs4
      clear hs2
      go_wp2_with fail
      obtain ⟨wo, rfl⟩ : ∃ wo : World, wo = w4 := ⟨_, rfl⟩
      go_loopw [55] (fun vi wr => ∃ k : Nat, k ≤ n ∧ vi = .int .i64 k ∧ Below wo.heap.size wo wr) (fun vi _ => n - (intOf vi).toNat)
      case atStart => exact ⟨0, Nat.zero_le _, rfl, Below.refl _ _⟩
      case round =>
        obtain ⟨k, hk, rfl, hbel⟩ := hrel
        by_cases hkn : k < n
        · obtain ⟨ba, oa, ea, hca⟩ := (hs2'.below hbel).get (by omega)
          obtain ⟨bb, ob, eb, hcb⟩ := (hs4.below hbel).get (by omega)
          subst ea
          subst eb
          have hkl : k < l.length := by rw [LO.out]; exact hkn
          have c1 : wr.cell? ⟨ba, oa + k, none⟩ = some (.int .i64 (l.getD k 0 : Nat)) := by rw [hca k (by omega)]; simp [intsN, hkl]
          have c2 : wr.cell? ⟨bb, ob + k, none⟩ = some (.int .i64 (l.getD k 0 : Nat)) := by rw [hcb k (by omega)]; simp [intsN, hkl]
          obtain ⟨x, hx⟩ : ∃ x, x = l.getD k 0 := ⟨_, rfl⟩
          rw [← hx] at c1 c2
          have f1 : ((x : Int) != (x : Int)) = false := by simp
          clear hx hca hcb
          go_wp2_with fail
          go_quiet (fail)
          go_wp2_with fail
          go_roundw
          case rel => exact ⟨k + 1, by omega, by go_num, below_drewN hbel _⟩
          case measure => simp [intOf]; omega
        · go_wp2_with fail
          go_ret
          exact ⟨rfl, bel_trans hb14 hbel⟩
    · obtain ⟨k, hk, hcl, hfirst⟩ := first_clash _ _ hc
      have HF := Lib.hid hfirst
      clear hc hfirst
      go_enter Try.func10, Try.ntmps10
      go_wp2_with fail
      refine (awake04 _).mono ?_
      rintro e w1 ⟨rfl, hb1⟩
      go_wp2_with fail
      refine (Order_x ao n ca k ss _ (ha.below hb1) (by omega) hk hcl HF.out).mono ?_
      rintro e w2 ⟨rfl, hb2⟩
      have hb12 := bel_trans hb1 hb2
      go_wp2_with fail
      refine (Clash_x ao n ca k ss _ (ha.below hb12) (by omega) hk hcl HF.out).mono ?_
      rintro e w3 ⟨rfl, hb3⟩
      go_wp2_with fail
      go_ret
      exact ⟨rfl, bel_trans hb12 hb3⟩
theorem cellsStr : Try.prog.cellsOf 9 = 1 := by kernel_rfl
theorem fixOrders_own : ownKnob Try.prog.godebug = none := by kernel_rfl
theorem fixOrders_laidOut : laidOutB Try.prog = true := by kernel_rfl
set_option maxRecDepth 100000 in
theorem fixOrders_lifted (os : Os) (started : os.Started) (H : Type) (enc : TypeId × Value → H) :
    ReturnsInHanded {} Try.checked os 10 .any (Rows.fixOrdersSpec.pre6 enc Try.prog Try.f10 Rows.fixOrdersRow.domain false) (Rows.fixOrdersSpec.post enc Try.prog Try.f10 false true false false) := by
  refine returnsInHanded_of_change_sized (C := Try.checked) fixOrders_own started (by kernel_rfl) Try.func10
    (ChangeSpec.witness6 (enc := enc) (C := Try.checked) false ⟨#[], #[.slice none 0 0], []⟩ 8 (by kernel_rfl) (by kernel_rfl) (by kernel_rfl) (by kernel_rfl)) ?_
  intro W base args ds gs before hval0 hW hcnd hsz0 _
  have hval : ∀ (j : Nat) t v, Try.f10.params[j]? = some t → args[j]? = some v → Value.okWide Try.prog W .any base t v := hval0
  have hsz : (DataW.weightsEach Try.prog (Try.f10.params.toList ++ Rows.fixOrdersSpec.plain.varTypes Try.prog) (ds ++ gs)).all (· ≤ reachBytes) = true := hsz0
  have hW' := hW
  obtain ⟨p, q, hA0, hV, rfl, hfz, hnd⟩ := hW
  have hA : DataW.TrodAll enc Try.prog W 0 (fun _ => true) true Try.f10.params.toList args.toList ds p := hA0
  rw [Try.params10] at hA hval hsz
  obtain ⟨rfl, rfl⟩ := trodVars_none hV
  obtain ⟨v0, d0, rfl, rfl, h0⟩ := trodAll_one hA
  obtain ⟨ao, n, ca, ss, rfl, hsl, hmc, hcm, hws⟩ := open_strSlice Try.underlying61 Try.underlying9 cellsStr (hval 0 61 v0 rfl rfl) h0
  refine (FixOrders_c ao n ca ss W hsl).mono fun e W' ⟨he, hb⟩ => ?_
  subst he
  exact ⟨_, rfl, law_post (tb := 4) fixOrders_laidOut (by kernel_rfl) (by kernel_rfl) Try.underlying4 rfl rfl rfl rfl hW' hb⟩
theorem fixOrders_holds : Rows.FixOrdersSaid :=
  OpenClaim.holds_of_wide 10 Try.f10 rfl rfl rfl rfl rfl rfl rfl ⟨rfl, rfl, rfl, rfl, rfl⟩ rfl rfl rfl rfl rfl (by kernel_rfl) Try.func10 (by kernel_rfl)
    (of_decide_eq_true (by kernel_rfl)) (by unfold Func.isWrapper; first | (rw [if_pos (by decide +kernel)]; kernel_rfl) | (rw [if_neg (by decide +kernel)]; exact ⟨rfl, rfl⟩))
    (fun os started H enc _ => fixOrders_lifted os started H enc)
#print axioms fixOrders_holds
end Go.Proofs.Ythibocdpbekbcaa
