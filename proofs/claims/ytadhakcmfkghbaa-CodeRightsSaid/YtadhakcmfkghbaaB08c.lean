/- cognatelaw08.count, Small -/
import Derived.Test.YtadhakcmfkghbaaTF
import Derived.Test.YtadhakcmfkghbaaPT
namespace Go.Proofs.Ytadhakcmfkghbaa
open Go.RowKit
end Go.Proofs.Ytadhakcmfkghbaa
