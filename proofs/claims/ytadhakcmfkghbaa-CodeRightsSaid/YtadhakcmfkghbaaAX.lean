/- More rules: a rune as a text; a part of a text; contracts of the model's own kind; bools that are known. -/
import Derived.Test.YtadhakcmfkghbaaAO
namespace Go.Proofs.Ytadhakcmfkghbaa
open Go.RowKit
section
variable {P : Program} {n : Nat} {al : Sl} {M : Mem} {o : Oper} {K : AV → Mem → Prop}
theorem BCall.yes {f : FuncId} {vs : List AV} {p : Prop} (h : BCall P f vs p) (hp : p) : PCall P f vs (.val (.bool true)) :=
  h.mono (by rintro v M' ⟨⟨c, hc, rfl⟩, rfl⟩; exact ⟨by rw [hc.2 hp], rfl⟩)
theorem BCall.no {f : FuncId} {vs : List AV} {p : Prop} (h : BCall P f vs p) (hp : ¬ p) : PCall P f vs (.val (.bool false)) :=
  h.mono (by rintro v M' ⟨⟨c, hc, rfl⟩, rfl⟩; exact ⟨by cases c <;> simp_all, rfl⟩)
end
end Go.Proofs.Ytadhakcmfkghbaa
