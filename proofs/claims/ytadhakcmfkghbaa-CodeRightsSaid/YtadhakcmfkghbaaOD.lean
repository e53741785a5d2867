/- Codes as arguments (printed by wip/gend29.py). -/
import Derived.Test.YtadhakcmfkghbaaTF
import Derived.Test.YtadhakcmfkghbaaAO2
import Derived.Test.YtadhakcmfkghbaaPD
namespace Go.Proofs.Ytadhakcmfkghbaa
open Go.RowKit
theorem cellsOf_str : Try.prog.cellsOf 9 = 1 := by kernel_rfl
theorem cellsOf_int : Try.prog.cellsOf 3 = 1 := by kernel_rfl
theorem cellsOf_lAto : Try.prog.cellsOf 42 = 1 := by kernel_rfl
theorem cellsOf_Ato : Try.prog.cellsOf 41 = 2 := by kernel_rfl
theorem shapeL_Ato (L : Nat) (_ : L ≤ 140737488355328) (fuel : Nat) (cs : List AV) (h : ShapeL Try.prog L fuel 41 cs) : ∃ x : Ato, cs = x.cells ∧ x.Lim := by
  obtain ⟨n, _, h⟩ := shapeL_struct Try.underlying41 h
  simp only [ShapeLF] at h
  obtain ⟨a0, b0, rfl, h0, a1, b1, rfl, h1, rfl⟩ := h
  obtain ⟨k, r0, rfl⟩ := shapeL_int tu_3 h0
  obtain ⟨n, r1, rfl⟩ := shapeL_int tu_2 h1
  refine ⟨.mk k n, ?_, ⟨I64.of r0, I64.of r1⟩⟩
  simp [Ato.cells]
theorem cellsOf_Is : Try.prog.cellsOf 46 = 7 := by kernel_rfl
theorem shapeL_Is (L : Nat) (hL : L ≤ 140737488355328) (fuel : Nat) (cs : List AV) (h : ShapeL Try.prog L fuel 46 cs) : ∃ x : Is, cs = x.cells ∧ x.Lim := by
  obtain ⟨n, _, h⟩ := shapeL_struct Try.underlying46 h
  simp only [ShapeLF] at h
  obtain ⟨a0, b0, rfl, h0, a1, b1, rfl, h1, a2, b2, rfl, h2, a3, b3, rfl, h3, a4, b4, rfl, h4, a5, b5, rfl, h5, a6, b6, rfl, h6, rfl⟩ := h
  obtain ⟨op, r0, rfl⟩ := shapeL_int tu_3 h0
  obtain ⟨a, r1, rfl⟩ := shapeL_int tu_3 h1
  obtain ⟨b, r2, rfl⟩ := shapeL_int tu_3 h2
  obtain ⟨n, r3, rfl⟩ := shapeL_int tu_2 h3
  obtain ⟨n4, e4, _, rfl, l4, h4⟩ := shapeL_slice tu_42 h4
  obtain ⟨ar, rfl, q4⟩ := pick_all2 (f := Ato.cells) (p := Ato.Lim) (fun x hx => shapeL_Ato L hL _ x (h4 x hx))
  obtain ⟨n5, e5, _, rfl, l5, h5⟩ := shapeL_slice tu_43 h5
  obtain ⟨fs, rfl, q5⟩ := pick_all2 (f := fun s => [AV.val (.int .i64 s)]) (p := I64) (fun x hx => by obtain ⟨s, r, rfl⟩ := shapeL_int tu_3 (h5 x hx); exact ⟨s, rfl, I64.of r⟩)
  obtain ⟨n6, e6, _, rfl, l6, h6⟩ := shapeL_slice tu_44 h6
  obtain ⟨cp, rfl, q6⟩ := pick_all2 (f := fun x => [AV.seq 2 (Ato.cellss x)]) (p := fun x => x.length ≤ 140737488355328 ∧ ∀ y ∈ x, y.Lim) (fun x hx => by
    obtain ⟨n, e, _, rfl, l, h⟩ := shapeL_slice tu_42 (h6 x hx)
    obtain ⟨z, rfl, q⟩ := pick_all2 (f := Ato.cells) (p := Ato.Lim) (fun x hx => shapeL_Ato L hL _ x (h x hx))
    exact ⟨z, by rw [cellsOf_Ato, ← Ato.cellss_map], by simpa using Nat.le_trans l hL, q⟩)
  refine ⟨.mk op a b n ar fs cp, ?_, ⟨I64.of r0, I64.of r1, I64.of r2, I64.of r3, ⟨by simpa using Nat.le_trans l4 hL, q4⟩, ⟨by simpa using Nat.le_trans l5 hL, q5⟩, ⟨by simpa using Nat.le_trans l6 hL, q6⟩⟩⟩
  rw [cellsOf_Ato, ← Ato.cellss_map, cellsOf_int, cellsOf_lAto]
  simp [Is.cells, Ato.cellsss, nums]
theorem cellsOf_Cf : Try.prog.cellsOf 39 = 3 := by kernel_rfl
theorem shapeL_Cf (L : Nat) (_ : L ≤ 140737488355328) (fuel : Nat) (cs : List AV) (h : ShapeL Try.prog L fuel 39 cs) : ∃ x : Cf, cs = x.cells ∧ x.Lim := by
  obtain ⟨n, _, h⟩ := shapeL_struct Try.underlying39 h
  simp only [ShapeLF] at h
  obtain ⟨a0, b0, rfl, h0, a1, b1, rfl, h1, a2, b2, rfl, h2, rfl⟩ := h
  obtain ⟨len, r0, rfl⟩ := shapeL_int tu_3 h0
  obtain ⟨sl, r1, rfl⟩ := shapeL_int tu_3 h1
  obtain ⟨cp, r2, rfl⟩ := shapeL_int tu_3 h2
  refine ⟨.mk len sl cp, ?_, ⟨I64.of r0, I64.of r1, I64.of r2⟩⟩
  simp [Cf.cells]
theorem shapeL_Cd (L : Nat) (hL : L ≤ 140737488355328) (fuel : Nat) (cs : List AV) (h : ShapeL Try.prog L fuel 26 cs) : ∃ x : Cd, cs = x.cells ∧ x.Lim := by
  obtain ⟨n, _, h⟩ := shapeL_struct Try.underlying26 h
  simp only [ShapeLF] at h
  obtain ⟨a0, b0, rfl, h0, a1, b1, rfl, h1, a2, b2, rfl, h2, a3, b3, rfl, h3, a4, b4, rfl, h4, a5, b5, rfl, h5, rfl⟩ := h
  obtain ⟨n0, e0, _, rfl, l0, h0⟩ := shapeL_slice tu_22 h0
  obtain ⟨is, rfl, q0⟩ := pick_all2 (f := Is.cells) (p := Is.Lim) (fun x hx => shapeL_Is L hL _ x (h0 x hx))
  obtain ⟨n1, e1, _, rfl, l1, h1⟩ := shapeL_slice tu_23 h1
  obtain ⟨fu, rfl, q1⟩ := pick_all2 (f := Cf.cells) (p := Cf.Lim) (fun x hx => shapeL_Cf L hL _ x (h1 x hx))
  obtain ⟨n2, e2, _, rfl, l2, h2⟩ := shapeL_slice tu_24 h2
  obtain ⟨tx, rfl, _⟩ := pick_all2 (f := fun s => [AV.val (.string s)]) (p := fun _ => True) (fun x hx => by obtain ⟨s, _, rfl⟩ := shapeL_str tu_9 (h2 x hx); exact ⟨s, rfl, trivial⟩)
  obtain ⟨gl, r3, rfl⟩ := shapeL_int tu_3 h3
  obtain ⟨ys, r4, rfl⟩ := shapeL_int tu_3 h4
  obtain ⟨no, r5, rfl⟩ := shapeL_int tu_3 h5
  refine ⟨.mk is fu tx gl ys no, ?_, ⟨⟨by simpa using Nat.le_trans l0 hL, q0⟩, ⟨by simpa using Nat.le_trans l1 hL, q1⟩, by simpa using Nat.le_trans l2 hL, I64.of r3, I64.of r4, I64.of r5⟩⟩
  rw [cellsOf_Is, ← Is.cellss_map, cellsOf_Cf, ← Cf.cellss_map, cellsOf_str]
  simp [Cd.cells, strs]
abbrev S29 : List TypeId := [3, 2, 9, 24, 43, 41, 42, 44, 46, 22, 39, 23, 26]
theorem closed29 : closedL Try.prog S29 = true := by kernel_rfl
end Go.Proofs.Ytadhakcmfkghbaa
