/- The arguments of the statements of layer 8. -/
import Derived.Test.YtjgjnheeohfmmaaOT
import Derived.Test.YtjgjnheeohfmmaaL00
namespace Go.Proofs.Ytjgjnheeohfmmaa
open Go.RowKit
theorem rel_agg' {F : EH} {v : Value} {cs : List AV} (hl : cs.length ≠ 1) (h : Rels F cs v.cells.toList) (h1 : Ones v.cells.toList) : Rel F (.agg cs) v := by
  refine rel_agg ?_ h h1
  have := h.len
  cases v <;> first | exact ⟨_, rfl⟩ | (exfalso; exact hl (by rw [this]; rfl))
abbrev S08 : List TypeId := [24, 22, 3, 9, 27, 53, 34, 36]
theorem closed08 : closedT Try.prog S08 = true := by kernel_rfl
end Go.Proofs.Ytjgjnheeohfmmaa
