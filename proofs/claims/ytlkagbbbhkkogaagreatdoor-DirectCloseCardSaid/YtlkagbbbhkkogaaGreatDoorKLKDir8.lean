/- Parts of a proof: DirectClose: what the row says of the program, one by one. -/
import Derived.Test.YtlkagbbbhkkogaaGreatDoorKLKDir7
import Derived.Test.YtlkagbbbhkkogaaGreatDoorRows
import Derived.JoinedCond
import Derived.SevenTiedAt
set_option maxRecDepth 100000
set_option maxHeartbeats 4000000
namespace Go.Proofs.YtlkagbbbhkkogaaGreatDoor
open Go.ChangeShapes Go.WideShapes Go.ChangeAt
theorem jf_laid:laidOutB Tryz.pinned.checked.prog=true:=by kernel_rfl
theorem jf_rowed:mapsRowed Tryz.pinned.checked.prog=true:=by kernel_rfl
theorem jf_inPlace:(Rows.directCloseRow.inPlace == Tryz.pinned.checked.prog.inPlace 4)=true:=by kernel_rfl
theorem jf_unfollowed:(Rows.directCloseRow.unfollowed == Tryz.pinned.checked.prog.unfollowed 4)=true:=by kernel_rfl
theorem jf_recurses:(Rows.directCloseRow.recurses == Tryz.pinned.checked.prog.recurses 4)=true:=by kernel_rfl
theorem jf_named:(Rows.directCloseRow.named == Tryz.pinned.checked.prog.varsNamed 4)=true:=by kernel_rfl
theorem jf_heard:Tryz.pinned.checked.prog.stopsHeard=true:=by kernel_rfl
theorem goes_no {P:Program} (h:P.funcs.any Func.goes=false) (f:FuncId):P.goes f=false:=by
 unfold Program.goes
 rw [h,Bool.and_false,Bool.or_false]
 rw [List.any_eq_false]
 intro g _ hg
 cases e:P.funcs[g]? with
 | none=>rw [e] at hg;cases hg
 | some fn =>
  rw [e] at hg
  have hm:fn∈P.funcs:=Array.mem_of_getElem? e
  rw [Array.any_eq_false'] at h
  exact h fn hm hg
theorem goesBy_no {P:Program} {c:OpenClaim} (h:P.funcs.any Func.goes=false) (hs:c.start=.entering):false=c.goesBy P:=by
 have h2:∀ n,P.goesFrom n=false:=fun n=>by
  unfold Program.goesFrom
  cases P.funcNamed n with
  | none=>rfl
  | some f=>exact goes_no h f
 unfold OpenClaim.goesBy Program.goesAt
 rw [h2,hs]
 rfl
theorem jf_go:Tryz.pinned.checked.prog.funcs.any Func.goes=false:=by kernel_rfl
theorem jf_goes:false=Rows.directCloseRow.goesBy Tryz.pinned.checked.prog:=goesBy_no jf_go rfl
end Go.Proofs.YtlkagbbbhkkogaaGreatDoor
