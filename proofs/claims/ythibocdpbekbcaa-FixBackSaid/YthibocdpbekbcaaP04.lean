/- Plain: the levels of operators. -/
import Derived.WalkKit
namespace Go.Proofs.Ythibocdpbekbcaa
/-- the operators, level by level from 1 on -/
def rowsT : List (List (List UInt8)) := [[[58, 61]], [[124, 124]], [[38, 38]], [[61, 61], [47, 61], [60], [60, 61], [62], [62, 61]], [[58, 58], [94]], [[43], [45]], [[42], [47], [37]]]
def lvl (op : List UInt8) : Nat := rowsT.findIdx (fun r => r.contains op) + 1
def sideN (l : Nat) : Nat := if l = 4 then 0 else if l < 6 then 2 else 1
theorem lvl_le (op : List UInt8) : lvl op ≤ 8 := by
  have : rowsT.findIdx (fun r => r.contains op) ≤ rowsT.length := List.findIdx_le_length
  unfold lvl; simp [rowsT] at *; omega
theorem lvl_pos (op : List UInt8) : 1 ≤ lvl op := by unfold lvl; omega
end Go.Proofs.Ythibocdpbekbcaa
