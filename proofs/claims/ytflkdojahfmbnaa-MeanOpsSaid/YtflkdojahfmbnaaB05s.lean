/- cognateref05.Texts, SameType, SameTypes; cognatelaw08.ints -/
import Derived.Test.YtflkdojahfmbnaaTF
import Derived.Test.YtflkdojahfmbnaaPT
namespace Go.Proofs.Ytflkdojahfmbnaa
open Go.RowKit
/-- a bool that is false -/
theorem iff_f {p : Prop} (h : ¬ p) : (false = true ↔ p) := by simp [h]
theorem iff_t {p : Prop} (h : p) : (true = true ↔ p) := by simp [h]
end Go.Proofs.Ytflkdojahfmbnaa
