/- Args, Answer, All, Vars, Metas of the document; Args of the program -/
import Derived.Test.YtadhakcmfkghbaaB08a
namespace Go.Proofs.Ytadhakcmfkghbaa
open Go.RowKit
end Go.Proofs.Ytadhakcmfkghbaa
