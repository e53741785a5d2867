/- cognateref05.Texts, SameType, SameTypes; cognatelaw08.ints -/
import Derived.Test.YtadhakcmfkghbaaTF
import Derived.Test.YtadhakcmfkghbaaPT
namespace Go.Proofs.Ytadhakcmfkghbaa
open Go.RowKit
theorem iff_f {p : Prop} (h : ¬ p) : (false = true ↔ p) := by simp [h]
theorem iff_t {p : Prop} (h : p) : (true = true ↔ p) := by simp [h]
end Go.Proofs.Ytadhakcmfkghbaa
