/- Plain functions: an operation on numbers. -/
import Derived.Test.YtflkdojahfmbnaaP01
namespace Go.Proofs.Ytflkdojahfmbnaa
def quoN (a b : Int) : Int := if W63 b = 0 then 0 else W63 ((W63 a).tdiv (W63 b))
def remN (a b : Int) : Int := if W63 b = 0 then 0 else (W63 a).tmod (W63 b)
def quoE (b : Int) : Int := if W63 b = 0 then 4 else 0
def opN (op a b : Int) : Int :=
  if op = 1 then W63 (a + b) else if op = 2 then W63 (a - b) else if op = 3 then W63 (a * b) else if op = 4 then quoN a b else if op = 5 then remN a b
  else if op = 6 then (if W63 a = W63 b then 1 else 0) else if op = 7 then (if W63 a < W63 b then 1 else 0) else 0
def opE (op b : Int) : Int := if op = 4 ∨ op = 5 then (if quoE b = 0 then 0 else 1) else 0
end Go.Proofs.Ytflkdojahfmbnaa
