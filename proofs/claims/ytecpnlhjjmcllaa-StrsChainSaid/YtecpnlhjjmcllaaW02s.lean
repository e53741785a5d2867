/- cognateref02.Same -/
import Derived.Test.YtecpnlhjjmcllaaW02p
import Derived.Test.YtecpnlhjjmcllaaSL
import Derived.Deep.QuietTactic
import Derived.BigQuiet
namespace Go.Proofs.Ytecpnlhjjmcllaa
open Go.RowKit
end Go.Proofs.Ytecpnlhjjmcllaa
