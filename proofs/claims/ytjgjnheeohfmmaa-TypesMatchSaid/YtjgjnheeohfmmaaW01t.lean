/- int63.Text -/
import Derived.Test.YtjgjnheeohfmmaaW01
import Derived.Test.YtjgjnheeohfmmaaP01t
namespace Go.Proofs.Ytjgjnheeohfmmaa
open Go.RowKit
theorem sl20 (w : World) (B : Nat) (x : Int) (h0 : 0 ≤ x) (h1 : x < 20) :
    (Instr.sliceAt 138 (.pointer (some ⟨B, 0, none⟩)) (some (.int .i64 x)) none none).run Try.prog w = .ok (.slice (some ⟨B, x.toNat, none⟩) (20 - x.toNat) (20 - x.toNat)) w := by
  have hl : Try.prog.arrayLen 138 = 20 := by kernel_rfl
  have hs : (sizeOf (Try.prog.elem 138)).run Try.prog w = .ok 1 w := by kernel_rfl
  rw [run_sliceAt_array_l w 138 ⟨B, 0, none⟩ (by kernel_rfl) .i64 x h0 (by rw [hl]; omega), hs]
  simp only [Result.andThen, slicedAt, hl]
  rw [if_neg (by omega)]
  simp [Addr.add]
  omega
set_option maxRecDepth 100000 in
set_option maxHeartbeats 400000 in
theorem Text_pos (n : Int) (w : World) (h : 0 ≤ W63 n) : Calls Try.prog 63 #[.int .i64 n] w fun e w' => e = .returned (.string (txt (W63 n))) ∧ Below w.heap.size w w' := by
  have h2 := W63_hi n
  generalize hz : W63 n = z at *
  have Hz := Lib.hid hz
  clear hz
  obtain ⟨U, rfl⟩ := Int.eq_ofNat_of_zero_le h
  have hlt : ¬ ((U : Int) < 0) := by omega
  go_enter Try.func63, Try.ntmps63
  go_wp2_with (go_at_call 110; refine (Wrap_c _ _).mono ?_; rw [Hz.out]; rintro e w' ⟨rfl, rfl⟩)
  go_loopw [4, 5] (fun va vu wr => ∃ (C : Array Value) (a u : Nat) (acc : List Int), va = .int .i64 a ∧ vu = .int .u64 u ∧ TextAt U C a u acc ∧ wr = w.alloc (.cells C 138)) (fun va _ _ => (intOf va).toNat)
  case atStart => exact ⟨_, 20, U, [], rfl, rfl, TextAt.start rfl (by omega), rfl⟩
  case round =>
    obtain ⟨C, a, u, acc, rfl, rfl, hT, rfl⟩ := hrel
    have hT2 := hT.two
    have hThi := hT.hi
    have hTle := hT.le
    have hTs := hT.size
    obtain ⟨v0, hv0⟩ : ∃ v, C[a - 1]? = some v := ⟨_, Array.getElem?_eq_getElem (by omega)⟩
    have hsl : ∀ w', _ := fun w' => sl20 w' w.heap.size ((a : Int) - 1) (by omega) (by omega)
    rw [show ((a : Int) - 1).toNat = a - 1 from by omega] at hsl
    have hcv : (convert 140 9 (.slice (some ⟨w.heap.size, a - 1, none⟩) (20 - (a - 1)) (20 - (a - 1)))).run Try.prog (w.alloc (.cells (C.setIfInBounds (a - 1) (.int .u8 (48 + (u : Int) % 10))) 138)) = _ := run_convert_bytes_arg _ 140 5 (by kernel_rfl) (by kernel_rfl) w.heap.size (a - 1) (20 - (a - 1)) (20 - (a - 1)) ((48 + (u : Int) % 10) :: acc) (by have := hT.len; simp; omega) (fun i hi => by
      have hc := cells_put (x := 48 + (u : Int) % 10) (by omega) (by omega) hT.cells i (by have := hT.len; simp; omega)
      rw [World.cell?_alloc_at _ _ _ _ rfl]; exact hc) 9 (by kernel_rfl)
    have HTs := Lib.hid hTs
    clear hTs
    go_wp2
    · go_ret
      have hu0 : ((u : Int) / 10 == 0) = true := by assumption
      have hu1 : u / 10 = 0 := by simp at hu0; omega
      refine ⟨?_, (Below.refl _ _).alloc (Nat.le_refl _) _⟩
      rw [txt_pos h (ds := (48 + (u : Int) % 10) :: acc) (by rw [← hT.last hu1]; rfl)]; rfl
    · have hu0 : ((u : Int) / 10 == 0) = false := by assumption
      have hu1 : u / 10 ≠ 0 := by intro hx; simp at hu0; omega
      go_roundw
      case rel => exact ⟨_, a - 1, u / 10, _, by congr 1; omega, by congr 1, hT.step hu1, rfl⟩
      case measure => simp [intOf]; omega
set_option maxRecDepth 100000 in
set_option maxHeartbeats 400000 in
theorem Text_neg (n : Int) (w : World) (h : W63 n < 0) : Calls Try.prog 63 #[.int .i64 n] w fun e w' => e = .returned (.string (txt (W63 n))) ∧ Below w.heap.size w w' := by
  have h2 := W63_lo n
  generalize hz : W63 n = z at *
  have Hz := Lib.hid hz
  clear hz
  obtain ⟨U, rfl⟩ : ∃ U : Nat, z = -(U : Int) := ⟨(-z).toNat, by omega⟩
  go_enter Try.func63, Try.ntmps63
  go_wp2_with (go_at_call 110; refine (Wrap_c _ _).mono ?_; rw [Hz.out]; rintro e w' ⟨rfl, rfl⟩)
  go_loopw [4, 5] (fun va vu wr => ∃ (C : Array Value) (a u : Nat) (acc : List Int), va = .int .i64 a ∧ vu = .int .u64 u ∧ TextAt U C a u acc ∧ wr = w.alloc (.cells C 138)) (fun va _ _ => (intOf va).toNat)
  case atStart => exact ⟨_, 20, U, [], rfl, by congr 1; simp only [IntKind.wrap_u64]; omega, TextAt.start rfl (by omega), rfl⟩
  case round =>
    obtain ⟨C, a, u, acc, rfl, rfl, hT, rfl⟩ := hrel
    have hT2 := hT.two
    have hThi := hT.hi
    have hTle := hT.le
    have hTs := hT.size
    obtain ⟨v0, hv0⟩ : ∃ v, C[a - 1]? = some v := ⟨_, Array.getElem?_eq_getElem (by omega)⟩
    obtain ⟨v1, hv1⟩ : ∃ v, (C.setIfInBounds (a - 1) (.int .u8 (48 + (u : Int) % 10)))[a - 1 - 1]? = some v := ⟨_, Array.getElem?_eq_getElem (by simp; omega)⟩
    have hsl : ∀ w', _ := fun w' => sl20 w' w.heap.size ((a : Int) - 1 - 1) (by omega) (by omega)
    rw [show ((a : Int) - 1 - 1).toNat = a - 1 - 1 from by omega] at hsl
    have hcv : (convert 140 9 (.slice (some ⟨w.heap.size, a - 1 - 1, none⟩) (20 - (a - 1 - 1)) (20 - (a - 1 - 1)))).run Try.prog (w.alloc (.cells ((C.setIfInBounds (a - 1) (.int .u8 (48 + (u : Int) % 10))).setIfInBounds (a - 1 - 1) (.int .u8 45)) 138)) = _ := run_convert_bytes_arg _ 140 5 (by kernel_rfl) (by kernel_rfl) w.heap.size (a - 1 - 1) (20 - (a - 1 - 1)) (20 - (a - 1 - 1)) (45 :: (48 + (u : Int) % 10) :: acc) (by have := hT.len; simp; omega) (fun i hi => by
      have hc := cells_put (x := 45) (by simp; omega) (by omega) (cells_put (x := 48 + (u : Int) % 10) (by omega) (by omega) hT.cells) i (by have := hT.len; simp; omega)
      rw [World.cell?_alloc_at _ _ _ _ rfl]; exact hc) 9 (by kernel_rfl)
    have HTs := Lib.hid hTs
    clear hTs
    go_wp2
    · go_ret
      have hu0 : ((u : Int) / 10 == 0) = true := by assumption
      have hu1 : u / 10 = 0 := by simp at hu0; omega
      refine ⟨?_, (Below.refl _ _).alloc (Nat.le_refl _) _⟩
      rw [txt_neg h (ds := (48 + (u : Int) % 10) :: acc) (by rw [← hT.last hu1]; congr 1; omega)]; rfl
    · have hu0 : ((u : Int) / 10 == 0) = false := by assumption
      have hu1 : u / 10 ≠ 0 := by intro hx; simp at hu0; omega
      go_roundw
      case rel => exact ⟨_, a - 1, u / 10, _, by congr 1; omega, by congr 1, hT.step hu1, rfl⟩
      case measure => simp [intOf]; omega
theorem Text_c (n : Int) (w : World) : Calls Try.prog 63 #[.int .i64 n] w fun e w' => e = .returned (.string (txt (W63 n))) ∧ Below w.heap.size w w' := by
  rcases Int.lt_or_le (W63 n) 0 with h | h
  · exact Text_neg n w h
  · exact Text_pos n w h
end Go.Proofs.Ytjgjnheeohfmmaa
