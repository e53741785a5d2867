/- The arguments of the statements of layer 5. -/
import Derived.Test.YtjgjnheeohfmmaaT08
import Derived.Test.YtjgjnheeohfmmaaAO2
import Derived.Test.YtjgjnheeohfmmaaPC
namespace Go.Proofs.Ytjgjnheeohfmmaa
open Go.RowKit
theorem cellsOf_ex : Try.prog.cellsOf 60 = 11 := by kernel_rfl
theorem cellsOf_pa : Try.prog.cellsOf 68 = 5 := by kernel_rfl
theorem cellsOf_al : Try.prog.cellsOf 70 = 16 := by kernel_rfl
theorem cellsOf_bi : Try.prog.cellsOf 74 = 13 := by kernel_rfl
theorem shapeL_ty (L fuel : Nat) : ∀ cs, ShapeL Try.prog L fuel 24 cs → ∃ t : Ty, cs = t.cells ∧ t.kn ≤ L := by
  induction fuel using Nat.strongRecOn with
  | _ fuel ih =>
    intro cs h
    obtain ⟨n, hn, h⟩ := shapeL_struct Try.underlying24 h
    simp only [ShapeLF] at h
    obtain ⟨a1, b1, rfl, h1, a2, b2, rfl, h2, a3, b3, rfl, h3, a4, b4, rfl, h4, rfl⟩ := h
    obtain ⟨k, _, rfl⟩ := shapeL_int tu_3 h1
    obtain ⟨s, _, rfl⟩ := shapeL_str tu_9 h2
    obtain ⟨m, _, rfl⟩ := shapeL_int tu_3 h3
    obtain ⟨n', es, hn', rfl, hl, h5⟩ := shapeL_slice tu_22 h4
    obtain ⟨ts, rfl, _⟩ := pick_all2 (f := Ty.cells) (fun x hx => ih n' (by omega) x (h5 x hx))
    refine ⟨.mk k s m ts, ?_, by rw [Ty.kn]; simpa using hl⟩
    rw [cellsOf_ty, ← Ty.cellss_map]
    rfl
theorem shapeL_pa (L fuel : Nat) : ∀ cs, ShapeL Try.prog L fuel 68 cs → ∃ t : Pa, cs = t.cells ∧ t.kn ≤ L := by
  induction fuel using Nat.strongRecOn with
  | _ fuel ih =>
    intro cs h
    obtain ⟨n, hn, h⟩ := shapeL_struct Try.underlying68 h
    simp only [ShapeLF] at h
    obtain ⟨a1, b1, rfl, h1, a2, b2, rfl, h2, a3, b3, rfl, h3, a4, b4, rfl, h4, a5, b5, rfl, h6, rfl⟩ := h
    obtain ⟨k, _, rfl⟩ := shapeL_int tu_3 h1
    obtain ⟨s, _, rfl⟩ := shapeL_str tu_9 h2
    obtain ⟨m, _, rfl⟩ := shapeL_int tu_2 h3
    obtain ⟨p, _, rfl⟩ := shapeL_int tu_3 h6
    obtain ⟨n', es, hn', rfl, hl, h5⟩ := shapeL_slice tu_66 h4
    obtain ⟨ts, rfl, _⟩ := pick_all2 (f := Pa.cells) (fun x hx => ih n' (by omega) x (h5 x hx))
    refine ⟨.mk k s m ts p, ?_, by rw [Pa.kn]; simpa using hl⟩
    rw [cellsOf_pa, ← Pa.cellss_map]
    rfl
theorem shapeL_ex (L : Nat) (hL : L ≤ 140737488355328) (fuel : Nat) : ∀ cs, ShapeL Try.prog L fuel 60 cs → ∃ e : Ex, cs = e.cells ∧ e.Lim := by
  induction fuel using Nat.strongRecOn with
  | _ fuel ih =>
    intro cs h
    obtain ⟨n, hn, h⟩ := shapeL_struct Try.underlying60 h
    simp only [ShapeLF] at h
    obtain ⟨a1, b1, rfl, h1, a2, b2, rfl, h2, a3, b3, rfl, h3, a4, b4, rfl, h4, a5, b5, rfl, h5, a6, b6, rfl, h6, a7, b7, rfl, h7, a8, b8, rfl, h8, rfl⟩ := h
    obtain ⟨k, _, rfl⟩ := shapeL_int tu_3 h1
    obtain ⟨s, _, rfl⟩ := shapeL_str tu_9 h2
    obtain ⟨m, _, rfl⟩ := shapeL_int tu_2 h3
    obtain ⟨t, rfl, ht⟩ := shapeL_ty _ _ _ h4
    obtain ⟨p, _, rfl⟩ := shapeL_int tu_3 h8
    obtain ⟨n5, e5, hn5, rfl, hl5, h5⟩ := shapeL_slice tu_56 h5
    obtain ⟨ks, rfl, hks⟩ := pick_all2 (f := Ex.cells) (fun x hx => ih n5 (by omega) x (h5 x hx))
    obtain ⟨n6, e6, hn6, rfl, hl6, h6⟩ := shapeL_slice tu_57 h6
    obtain ⟨al, rfl, hal⟩ := pick_all2 (f := Al.cells) (p := Al.Lim) (fun x hx => by
      obtain ⟨n', hn', g⟩ := shapeL_struct Try.underlying70 (h6 x hx)
      simp only [ShapeLF] at g
      obtain ⟨a1, b1, rfl, g1, a2, b2, rfl, g2, rfl⟩ := g
      obtain ⟨q, rfl, hq⟩ := shapeL_pa _ _ _ g1
      obtain ⟨e, rfl, he⟩ := ih n' (by omega) _ g2
      exact ⟨.mk q e, by simp [Al.cells], by rw [Al.Lim]; exact ⟨he, by omega⟩⟩)
    obtain ⟨n7, e7, hn7, rfl, hl7, h7⟩ := shapeL_slice tu_58 h7
    obtain ⟨bs, rfl, hbs⟩ := pick_all2 (f := Bi.cells) (p := Bi.Lim) (fun x hx => by
      obtain ⟨n', hn', g⟩ := shapeL_struct Try.underlying74 (h7 x hx)
      simp only [ShapeLF] at g
      obtain ⟨a1, b1, rfl, g1, a2, b2, rfl, g2, a3, b3, rfl, g3, rfl⟩ := g
      obtain ⟨s, _, rfl⟩ := shapeL_str tu_9 g1
      obtain ⟨e, rfl, he⟩ := ih n' (by omega) _ g2
      obtain ⟨p, _, rfl⟩ := shapeL_int tu_3 g3
      exact ⟨.mk s e p, by simp [Bi.cells], by rw [Bi.Lim]; exact he⟩)
    refine ⟨.mk k s m t ks al bs p, ?_, ?_⟩
    · rw [cellsOf_ex, cellsOf_al, cellsOf_bi, ← Ex.cellss_map, ← Al.cellss_map, ← Bi.cellss_map, Ex.cells]
      simp
    · rw [Ex.Lim]
      exact ⟨by omega, (Ex.lims_iff _).2 hks, (Bi.lims_iff _).2 hbs, (Al.lims_iff _).2 hal⟩
abbrev S05 : List TypeId := [24, 22, 3, 2, 9, 68, 66, 60, 56, 70, 57, 74, 58]
theorem closed05 : closedL Try.prog S05 = true := by kernel_rfl
theorem Ex.cells_len (e : Ex) : e.cells.length = 11 := by cases e with | mk k s n t ks al bs p => cases t; simp [Ex.cells, Ty.cells]
end Go.Proofs.Ytjgjnheeohfmmaa
