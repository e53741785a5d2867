/- Declarations as arguments (printed by wip/gend.py). -/
import Derived.Test.YtjgjnheeohfmmaaOE
import Derived.Test.YtjgjnheeohfmmaaPG
namespace Go.Proofs.Ytjgjnheeohfmmaa
open Go.RowKit
theorem shapeL_ty' (L : Nat) (hL : L ≤ 140737488355328) (fuel : Nat) (cs : List AV) (h : ShapeL Try.prog L fuel 24 cs) : ∃ x : Ty, cs = x.cells ∧ x.Lim := by
  obtain ⟨x, h1, h2⟩ := shapeL_ty L fuel cs h
  exact ⟨x, h1, Nat.le_trans h2 hL⟩
theorem shapeL_bi (L : Nat) (hL : L ≤ 140737488355328) (fuel : Nat) (cs : List AV) (h : ShapeL Try.prog L fuel 74 cs) : ∃ x : Bi, cs = x.cells ∧ x.Lim := by
  obtain ⟨n, _, g⟩ := shapeL_struct Try.underlying74 h
  simp only [ShapeLF] at g
  obtain ⟨a1, b1, rfl, g1, a2, b2, rfl, g2, a3, b3, rfl, g3, rfl⟩ := g
  obtain ⟨s, _, rfl⟩ := shapeL_str tu_9 g1
  obtain ⟨e, rfl, he⟩ := shapeL_ex L hL _ _ g2
  obtain ⟨p, _, rfl⟩ := shapeL_int tu_3 g3
  exact ⟨.mk s e p, by simp [Bi.cells], by rw [Bi.Lim]; exact he⟩
theorem cellsOf_Pr : Try.prog.cellsOf 157 = 5 := by kernel_rfl
theorem shapeL_Pr (L : Nat) (hL : L ≤ 140737488355328) (fuel : Nat) (cs : List AV) (h : ShapeL Try.prog L fuel 157 cs) : ∃ x : Pr, cs = x.cells ∧ x.Lim := by
  obtain ⟨n, _, h⟩ := shapeL_struct Try.underlying157 h
  simp only [ShapeLF] at h
  obtain ⟨a0, b0, rfl, h0, a1, b1, rfl, h1, rfl⟩ := h
  obtain ⟨c, _, rfl⟩ := shapeL_str tu_9 h0
  obtain ⟨t, rfl, q1⟩ := shapeL_ty' L hL _ _ h1
  refine ⟨.mk c t, ?_, q1⟩
  simp [Pr.cells]
theorem cellsOf_Cn : Try.prog.cellsOf 148 = 3 := by kernel_rfl
theorem shapeL_Cn (L : Nat) (hL : L ≤ 140737488355328) (fuel : Nat) (cs : List AV) (h : ShapeL Try.prog L fuel 148 cs) : ∃ x : Cn, cs = x.cells ∧ x.Lim := by
  obtain ⟨n, _, h⟩ := shapeL_struct Try.underlying148 h
  simp only [ShapeLF] at h
  obtain ⟨a0, b0, rfl, h0, a1, b1, rfl, h1, a2, b2, rfl, h2, rfl⟩ := h
  obtain ⟨s, _, rfl⟩ := shapeL_str tu_9 h0
  obtain ⟨n1, e1, _, rfl, l1, h1⟩ := shapeL_slice tu_22 h1
  obtain ⟨ts, rfl, q1⟩ := pick_all2 (f := Ty.cells) (p := Ty.Lim) (fun x hx => shapeL_ty' L hL _ x (h1 x hx))
  obtain ⟨p, _, rfl⟩ := shapeL_int tu_3 h2
  refine ⟨.mk s ts p, ?_, ⟨by simpa using Nat.le_trans l1 hL, q1⟩⟩
  rw [cellsOf_ty, ← Ty.cellss_map]
  simp [Cn.cells]
theorem cellsOf_Da : Try.prog.cellsOf 130 = 5 := by kernel_rfl
theorem shapeL_Da (L : Nat) (hL : L ≤ 140737488355328) (fuel : Nat) (cs : List AV) (h : ShapeL Try.prog L fuel 130 cs) : ∃ x : Da, cs = x.cells ∧ x.Lim := by
  obtain ⟨n, _, h⟩ := shapeL_struct Try.underlying130 h
  simp only [ShapeLF] at h
  obtain ⟨a0, b0, rfl, h0, a1, b1, rfl, h1, a2, b2, rfl, h2, a3, b3, rfl, h3, a4, b4, rfl, h4, rfl⟩ := h
  obtain ⟨s, _, rfl⟩ := shapeL_str tu_9 h0
  obtain ⟨n1, e1, _, rfl, l1, h1⟩ := shapeL_slice tu_27 h1
  obtain ⟨ps, rfl, _⟩ := pick_all2 (f := fun s => [AV.val (.string s)]) (p := fun _ => True) (fun x hx => by obtain ⟨s, _, rfl⟩ := shapeL_str tu_9 (h1 x hx); exact ⟨s, rfl, trivial⟩)
  obtain ⟨n2, e2, _, rfl, l2, h2⟩ := shapeL_slice tu_128 h2
  obtain ⟨cs, rfl, q2⟩ := pick_all2 (f := Cn.cells) (p := Cn.Lim) (fun x hx => shapeL_Cn L hL _ x (h2 x hx))
  obtain ⟨n3, e3, _, rfl, l3, h3⟩ := shapeL_slice tu_27 h3
  obtain ⟨dv, rfl, _⟩ := pick_all2 (f := fun s => [AV.val (.string s)]) (p := fun _ => True) (fun x hx => by obtain ⟨s, _, rfl⟩ := shapeL_str tu_9 (h3 x hx); exact ⟨s, rfl, trivial⟩)
  obtain ⟨p, _, rfl⟩ := shapeL_int tu_3 h4
  refine ⟨.mk s ps cs dv p, ?_, ⟨by simpa using Nat.le_trans l1 hL, ⟨by simpa using Nat.le_trans l2 hL, q2⟩, by simpa using Nat.le_trans l3 hL⟩⟩
  rw [cellsOf_str, cellsOf_Cn, ← Cn.cellss_map]
  simp [Da.cells, strs]
theorem cellsOf_Me : Try.prog.cellsOf 152 = 6 := by kernel_rfl
theorem shapeL_Me (L : Nat) (hL : L ≤ 140737488355328) (fuel : Nat) (cs : List AV) (h : ShapeL Try.prog L fuel 152 cs) : ∃ x : Me, cs = x.cells ∧ x.Lim := by
  obtain ⟨n, _, h⟩ := shapeL_struct Try.underlying152 h
  simp only [ShapeLF] at h
  obtain ⟨a0, b0, rfl, h0, a1, b1, rfl, h1, a2, b2, rfl, h2, rfl⟩ := h
  obtain ⟨s, _, rfl⟩ := shapeL_str tu_9 h0
  obtain ⟨t, rfl, q1⟩ := shapeL_ty' L hL _ _ h1
  obtain ⟨p, _, rfl⟩ := shapeL_int tu_3 h2
  refine ⟨.mk s t p, ?_, q1⟩
  simp [Me.cells]
theorem cellsOf_Cl : Try.prog.cellsOf 124 = 6 := by kernel_rfl
theorem shapeL_Cl (L : Nat) (hL : L ≤ 140737488355328) (fuel : Nat) (cs : List AV) (h : ShapeL Try.prog L fuel 124 cs) : ∃ x : Cl, cs = x.cells ∧ x.Lim := by
  obtain ⟨n, _, h⟩ := shapeL_struct Try.underlying124 h
  simp only [ShapeLF] at h
  obtain ⟨a0, b0, rfl, h0, a1, b1, rfl, h1, a2, b2, rfl, h2, a3, b3, rfl, h3, a4, b4, rfl, h4, a5, b5, rfl, h5, rfl⟩ := h
  obtain ⟨s, _, rfl⟩ := shapeL_str tu_9 h0
  obtain ⟨v, _, rfl⟩ := shapeL_str tu_9 h1
  obtain ⟨n2, e2, _, rfl, l2, h2⟩ := shapeL_slice tu_27 h2
  obtain ⟨su, rfl, _⟩ := pick_all2 (f := fun s => [AV.val (.string s)]) (p := fun _ => True) (fun x hx => by obtain ⟨s, _, rfl⟩ := shapeL_str tu_9 (h2 x hx); exact ⟨s, rfl, trivial⟩)
  obtain ⟨n3, e3, _, rfl, l3, h3⟩ := shapeL_slice tu_122 h3
  obtain ⟨ms, rfl, q3⟩ := pick_all2 (f := Me.cells) (p := Me.Lim) (fun x hx => shapeL_Me L hL _ x (h3 x hx))
  obtain ⟨n4, e4, _, rfl, l4, h4⟩ := shapeL_slice tu_58 h4
  obtain ⟨ds, rfl, q4⟩ := pick_all2 (f := Bi.cells) (p := Bi.Lim) (fun x hx => shapeL_bi L hL _ x (h4 x hx))
  obtain ⟨p, _, rfl⟩ := shapeL_int tu_3 h5
  refine ⟨.mk s v su ms ds p, ?_, ⟨by simpa using Nat.le_trans l2 hL, ⟨by simpa using Nat.le_trans l3 hL, q3⟩, ⟨by simpa using Nat.le_trans l4 hL, q4⟩⟩⟩
  rw [cellsOf_str, cellsOf_Me, ← Me.cellss_map, cellsOf_bi, ← Bi.cellss_map]
  simp [Cl.cells, strs]
theorem cellsOf_In : Try.prog.cellsOf 127 = 8 := by kernel_rfl
theorem shapeL_In (L : Nat) (hL : L ≤ 140737488355328) (fuel : Nat) (cs : List AV) (h : ShapeL Try.prog L fuel 127 cs) : ∃ x : In, cs = x.cells ∧ x.Lim := by
  obtain ⟨n, _, h⟩ := shapeL_struct Try.underlying127 h
  simp only [ShapeLF] at h
  obtain ⟨a0, b0, rfl, h0, a1, b1, rfl, h1, a2, b2, rfl, h2, a3, b3, rfl, h3, a4, b4, rfl, h4, rfl⟩ := h
  obtain ⟨c, _, rfl⟩ := shapeL_str tu_9 h0
  obtain ⟨hd, rfl, q1⟩ := shapeL_ty' L hL _ _ h1
  obtain ⟨n2, e2, _, rfl, l2, h2⟩ := shapeL_slice tu_125 h2
  obtain ⟨cx, rfl, q2⟩ := pick_all2 (f := Pr.cells) (p := Pr.Lim) (fun x hx => shapeL_Pr L hL _ x (h2 x hx))
  obtain ⟨n3, e3, _, rfl, l3, h3⟩ := shapeL_slice tu_58 h3
  obtain ⟨bs, rfl, q3⟩ := pick_all2 (f := Bi.cells) (p := Bi.Lim) (fun x hx => shapeL_bi L hL _ x (h3 x hx))
  obtain ⟨p, _, rfl⟩ := shapeL_int tu_3 h4
  refine ⟨.mk c hd cx bs p, ?_, ⟨q1, ⟨by simpa using Nat.le_trans l2 hL, q2⟩, ⟨by simpa using Nat.le_trans l3 hL, q3⟩⟩⟩
  rw [cellsOf_Pr, ← Pr.cellss_map, cellsOf_bi, ← Bi.cellss_map]
  simp [In.cells]
theorem cellsOf_Pg : Try.prog.cellsOf 81 = 4 := by kernel_rfl
theorem shapeL_Pg (L : Nat) (hL : L ≤ 140737488355328) (fuel : Nat) (cs : List AV) (h : ShapeL Try.prog L fuel 81 cs) : ∃ x : Pg, cs = x.cells ∧ x.Lim := by
  obtain ⟨n, _, h⟩ := shapeL_struct Try.underlying81 h
  simp only [ShapeLF] at h
  obtain ⟨a0, b0, rfl, h0, a1, b1, rfl, h1, a2, b2, rfl, h2, a3, b3, rfl, h3, rfl⟩ := h
  obtain ⟨n0, e0, _, rfl, l0, h0⟩ := shapeL_slice tu_77 h0
  obtain ⟨da, rfl, q0⟩ := pick_all2 (f := Da.cells) (p := Da.Lim) (fun x hx => shapeL_Da L hL _ x (h0 x hx))
  obtain ⟨n1, e1, _, rfl, l1, h1⟩ := shapeL_slice tu_78 h1
  obtain ⟨cl, rfl, q1⟩ := pick_all2 (f := Cl.cells) (p := Cl.Lim) (fun x hx => shapeL_Cl L hL _ x (h1 x hx))
  obtain ⟨n2, e2, _, rfl, l2, h2⟩ := shapeL_slice tu_79 h2
  obtain ⟨ins, rfl, q2⟩ := pick_all2 (f := In.cells) (p := In.Lim) (fun x hx => shapeL_In L hL _ x (h2 x hx))
  obtain ⟨n3, e3, _, rfl, l3, h3⟩ := shapeL_slice tu_58 h3
  obtain ⟨bs, rfl, q3⟩ := pick_all2 (f := Bi.cells) (p := Bi.Lim) (fun x hx => shapeL_bi L hL _ x (h3 x hx))
  refine ⟨.mk da cl ins bs, ?_, ⟨⟨by simpa using Nat.le_trans l0 hL, q0⟩, ⟨by simpa using Nat.le_trans l1 hL, q1⟩, ⟨by simpa using Nat.le_trans l2 hL, q2⟩, ⟨by simpa using Nat.le_trans l3 hL, q3⟩⟩⟩
  rw [cellsOf_Da, ← Da.cellss_map, cellsOf_Cl, ← Cl.cellss_map, cellsOf_In, ← In.cellss_map, cellsOf_bi, ← Bi.cellss_map]
  simp [Pg.cells]
abbrev S05g : List TypeId := S05 ++ [27, 157, 125, 148, 128, 152, 122, 130, 77, 124, 78, 127, 79, 81]
theorem closed05g : closedL Try.prog S05g = true := by kernel_rfl
end Go.Proofs.Ytjgjnheeohfmmaa
