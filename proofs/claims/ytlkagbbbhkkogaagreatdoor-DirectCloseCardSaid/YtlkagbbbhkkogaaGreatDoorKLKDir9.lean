/- DirectClose (a tied card: the row lists cognateref07.kids, which the program's text lays): any type is closed as the document says. No condition. -/
import Derived.Test.YtlkagbbbhkkogaaGreatDoorKLKDir8
import Derived.Test.YtlkagbbbhkkogaaGreatDoorCards
import Derived.Test.YtlkagbbbhkkogaaGreatDoorTie
import Derived.SevenTiedAt
set_option maxRecDepth 100000
set_option maxHeartbeats 4000000
namespace Go.Proofs.YtlkagbbbhkkogaaGreatDoor
open Go.ChangeShapes Go.WideShapes Go.ChangeAt Go.RowKit
theorem directClose_facts:joinedFacts Tryz.pinned.checked.prog 4 Tryz.f4 Rows.directCloseSpec Rows.directCloseRow=true:=by
 unfold joinedFacts
 rw [jf_laid,jf_rowed,jf_inPlace,jf_unfollowed,jf_recurses,jf_named,jf_heard]
 kernel_rfl
theorem directClose_holds:Rows.DirectCloseSaid :=
 OpenClaim.holds_of_wide 4 Tryz.f4 rfl rfl rfl rfl rfl rfl rfl ⟨rfl,rfl,rfl,rfl,rfl⟩ rfl rfl rfl rfl rfl (by kernel_rfl) Tryz.func4 directClose_facts
  (of_decide_eq_true (by kernel_rfl)) (by unfold Func.isWrapper;first|(rw [if_pos (by decide +kernel)];kernel_rfl)|(rw [if_neg (by decide +kernel)];exact ⟨rfl,rfl⟩))
  (fun os started H enc _=>directClose_lifted os started H enc)
open Go.ChangeShapes Go.WideShapes Go.ChangeAt Go.RowKit
theorem directCloseCard_holds:Rows.DirectCloseCardSaid :=
 Claim7.holds_tied_plain_at .later [] [.data] true (true, "af1eb4aa374c2e3dd69c5c9817f85b1a6cdcec3da2eeec107d08e6b5e0d4b1bf") true
  directClose_holds (fun _ h=>by cases h) (by kernel_rfl) (fun _ h=>by cases h) directClose_row_tie rfl ⟨rfl,rfl⟩ (by kernel_rfl) rfl
  (fun f fn hf hfn=>by
   obtain rfl : f = 4 := Option.some.inj ((show Tryz.prog.funcNamed "cognate/cognatelaw24.DirectClose" = some 4 by kernel_rfl).symm.trans hf) |>.symm
   obtain rfl:fn=Tryz.f4:=(Option.some.inj (Tryz.func4.symm.trans hfn)).symm
   exact ⟨by kernel_rfl,fun j t ht=>by
    rw [Tryz.params4] at ht
    have hm:t∈[30,22,24]:=by simpa using Array.mem_of_getElem? ht
    have hall:([30,22,24].all fun u => !Tryz.prog.wantsStandIn u)=true:=by kernel_rfl
    exact (show Tryz.prog.wantsStandIn t=false by simpa using List.all_eq_true.1 hall t hm)⟩)
  jf_goes
#print axioms directCloseCard_holds
end Go.Proofs.YtlkagbbbhkkogaaGreatDoor
