/- cognatelaw04.awake -/
import Derived.Test.YthibocdpbekbcaaW04c
namespace Go.Proofs.Ythibocdpbekbcaa
open Go.RowKit
theorem Order_plus (b cap : Nat) (w : World) (h0 : w.cell? ⟨b, 0, none⟩ = some (.string ⟨#[43]⟩)) (h1 : w.cell? ⟨b, 1, none⟩ = some (.string ⟨#[42]⟩)) :
    Calls Try.prog 49 #[.slice (some ⟨b, 0, none⟩) 2 cap] w fun e w' => ∃ g c, e = .returned (.tuple #[.slice (some ⟨g, 0, none⟩) 2 c, .int .i64 0, .int .i64 0]) ∧ w'.cell? ⟨g, 0, none⟩ = some (.int .i64 1) ∧ Below w.heap.size w w' := by
  have hrun : runTo (lvAt [⟨#[43]⟩, ⟨#[42]⟩]) 2 = some ([1, 0], []) := by decide +kernel
  have hrun0 : downF (lvAt [⟨#[43]⟩, ⟨#[42]⟩]) (lvAt [⟨#[43]⟩, ⟨#[42]⟩] 0) [] [] = some ([], []) := rfl
  refine (Order_c (some ⟨b, 0, none⟩) 2 cap [⟨#[43]⟩, ⟨#[42]⟩] w ⟨rfl, Or.inr ⟨b, 0, rfl, fun j hj => ?_⟩⟩ (by omega)).mono ?_
  · have : j = 0 ∨ j = 1 := by omega
    rcases this with rfl | rfl
    · exact h0
    · exact h1
  · rintro e w' ⟨hb, ⟨st, out, v, hr, rfl, hown⟩ | ⟨i, st, out, hi, hr, hd, rfl⟩⟩
    · rw [hrun] at hr
      simp at hr
      obtain ⟨rfl, rfl⟩ := hr
      obtain ⟨g, c, hv, hc⟩ := own_form hown (by omega)
      exact ⟨g, c, by rw [hv], (hc 0 (by omega)).trans rfl, hb⟩
    · exfalso
      have h2 := order_clash _ hr hd
      have h3 := (order_ok _ hrun).2 i hi
      exact h3 h2.1
theorem Order_eq (b cap : Nat) (w : World) (h0 : w.cell? ⟨b, 0, none⟩ = some (.string ⟨#[61, 61]⟩)) (h1 : w.cell? ⟨b, 1, none⟩ = some (.string ⟨#[43]⟩)) (h2 : w.cell? ⟨b, 2, none⟩ = some (.string ⟨#[61, 61]⟩)) :
    Calls Try.prog 49 #[.slice (some ⟨b, 0, none⟩) 3 cap] w fun e w' => e = .returned (.tuple #[.slice none 0 0, .int .i64 2, .int .i64 112]) ∧ Below w.heap.size w w' := by
  have hrun : runTo (lvAt [⟨#[61, 61]⟩, ⟨#[43]⟩, ⟨#[61, 61]⟩]) 3 = none := by decide +kernel
  have hrun2 : runTo (lvAt [⟨#[61, 61]⟩, ⟨#[43]⟩, ⟨#[61, 61]⟩]) 2 = some ([1, 0], []) := by decide +kernel
  refine (Order_c (some ⟨b, 0, none⟩) 3 cap [⟨#[61, 61]⟩, ⟨#[43]⟩, ⟨#[61, 61]⟩] w ⟨rfl, Or.inr ⟨b, 0, rfl, fun j hj => ?_⟩⟩ (by omega)).mono ?_
  · have : j = 0 ∨ j = 1 ∨ j = 2 := by omega
    rcases this with rfl | rfl | rfl
    · exact h0
    · exact h1
    · exact h2
  · rintro e w' ⟨hb, ⟨st, out, v, hr, rfl, hown⟩ | ⟨i, st, out, hi, hr, hd, rfl⟩⟩
    · rw [hrun] at hr; simp at hr
    · have h2 := order_clash _ hr hd
      have h3 := (order_ok _ hrun2).2 i
      have : i = 2 := by
        by_cases hh : i < 2
        · exact absurd h2.1 (h3 hh)
        · omega
      subst this
      exact ⟨rfl, hb⟩
set_option maxRecDepth 100000 in
set_option maxHeartbeats 1000000 in
theorem awake04 (w : World) : Calls Try.prog 48 #[] w fun e w' => e = .returned (.bool true) ∧ Below w.heap.size w w' := by
  go_enter Try.func48, Try.ntmps48
  go_wp2_with fail
  refine (Order_plus _ _ _ (by simp) (by simp)).mono ?_
  rintro e w1 ⟨g, c, rfl, hc, hb1⟩
  go_wp2_with fail
  refine (Order_eq _ _ _ (by simp) (by simp) (by simp)).mono ?_
  rintro e w2 ⟨rfl, hb2⟩
  have hg : g < w1.heap.size := cell_lt hc
  have hc2 : w2.cell? ⟨g, 0, none⟩ = some (.int .i64 1) := by
    rw [hb2.cell (p := ⟨g, 0, none⟩) (by simp; omega), World.cell?_alloc_past _ _ _ hg]; exact hc
  clear hc
  go_wp2_with fail
  go_ret
  refine ⟨rfl, ?_⟩
  have k1 : Below w.heap.size w w1 := ((Below.refl _ _).alloc (Nat.le_refl _) _).trans (hb1.mono (by simp))
  exact (k1.alloc k1.size _).trans (hb2.mono (by have := k1.size; simp; omega))
end Go.Proofs.Ythibocdpbekbcaa
