/- cognatelaw02.awake -/
import Derived.Test.YthibocdpbekbcaaW02p
import Derived.Test.YthibocdpbekbcaaW02h
namespace Go.Proofs.Ythibocdpbekbcaa
open Go.RowKit
theorem own_form {w : World} {base : Nat} {e : TypeId} {size : Nat} {v : Value} {n : Nat} {xs : List Value} (h : w.ownsRow base e size v n xs) (hn : 1 ≤ n) :
    ∃ g cap, v = .slice (some ⟨g, 0, none⟩) n cap ∧ ∀ j, j < n * size → w.cell? ⟨g, j, none⟩ = xs[j]? := by
  have h' := h
  rcases h.2 with ⟨_, h0⟩ | ⟨g, cap, cur, rfl, _⟩
  · omega
  · exact ⟨g, cap, rfl, fun j hj => h'.cellAt j hj⟩
theorem Pack_ab (w : World) : Calls Try.prog 39 #[.string ⟨#[97, 98]⟩] w fun e w' => ∃ g cap, e = .returned (.slice (some ⟨g, 0, none⟩) 1 cap) ∧ w'.cell? ⟨g, 0, none⟩ = some (.int .u64 25185) ∧ Below w.heap.size w w' := by
  refine (Pack_c ⟨#[97, 98]⟩ w (by decide)).mono ?_
  rintro e w' ⟨v, rfl, hown, hb⟩
  obtain ⟨g, cap, hv, hc⟩ := own_form hown (by decide)
  exact ⟨g, cap, by rw [hv]; rfl, (hc 0 (by decide)).trans (by rw [show packL (bytesN ⟨#[97, 98]⟩) = [25185] from by decide +kernel]; rfl), hb⟩
set_option maxHeartbeats 400000 in
theorem awake02 (w : World) : Calls Try.prog 15 #[] w fun e w' => e = .returned (.bool true) ∧ Below w.heap.size w w' := by
  have k1 : intW 5 = 11 := by decide
  have k2 : ptrW 5 = 10 := by decide
  have k3 : okE (ptrOk 5) = 0 := by decide
  have k4 : headW 2 0 1 = 1048581 := by decide
  have k5 : okE (headOk 2 0 1) = 0 := by decide
  go_enter Try.func15, Try.ntmps15
  go_wp2_with (first | (go_at_call 21; refine (Ptr_c _ _ (by omega) (by omega)).mono ?_; rintro e w' ⟨rfl, rfl⟩) | (go_at_call 25; refine (Head_c _ _ _ _ (by omega) (by omega) (by omega) (by omega) (by omega) (by omega)).mono ?_; rintro e w' ⟨rfl, rfl⟩) | (go_at_call 39; refine (Pack_ab _).mono ?_; rintro e w' ⟨g, cap, rfl, hc, hb⟩) | (go_at_call 18; refine (wInt_c _ _).mono ?_; rintro e w' ⟨rfl, rfl⟩))
  go_ret
  exact ⟨rfl, hb⟩
end Go.Proofs.Ythibocdpbekbcaa
