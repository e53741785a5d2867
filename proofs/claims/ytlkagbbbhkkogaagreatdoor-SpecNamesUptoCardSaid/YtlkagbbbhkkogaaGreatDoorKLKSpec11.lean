/- SpecNames (a tied card: the row lists cognateref07.kids, which the program's text lays), where what it reads is of bulk at most 1048576: any core expression has the free names that the document says, and others are put in their place as it says. -/
import Derived.Test.YtlkagbbbhkkogaaGreatDoorKLKSpec10
import Derived.Test.YtlkagbbbhkkogaaGreatDoorCards
import Derived.Test.YtlkagbbbhkkogaaGreatDoorTie
import Derived.SevenTiedAt
set_option maxRecDepth 100000
set_option maxHeartbeats 4000000
namespace Go.Proofs.YtlkagbbbhkkogaaGreatDoor
open Go.ChangeShapes Go.WideShapes Go.ChangeAt Go.RowKit
theorem specNames_facts:joinedFacts Tryz.pinned.checked.prog 3 Tryz.f3 (Rows.OpenSpec.upto Rows.specNamesSpec).bare Rows.specNamesUptoRow=true:=by
 unfold joinedFacts
 rw [jf_laid,jf_rowed,jf_inPlace,jf_unfollowed,jf_recurses,jf_named,jf_heard]
 kernel_rfl
theorem specNames_holds:Rows.SpecNamesUptoSaid :=
 OpenClaim.holds_of_cond 3 Tryz.f3 rfl rfl rfl rfl rfl rfl rfl ⟨rfl,rfl,rfl,rfl,rfl⟩ rfl rfl rfl rfl rfl (by kernel_rfl) Tryz.func3 specNames_facts
  (of_decide_eq_true (by kernel_rfl)) (by unfold Func.isWrapper;first|(rw [if_pos (by decide +kernel)];kernel_rfl)|(rw [if_neg (by decide +kernel)];exact ⟨rfl,rfl⟩))
  (fun os started H enc _ F0=>specNames_lifted os started H enc F0)
open Go.ChangeShapes Go.WideShapes Go.ChangeAt Go.RowKit
theorem specNamesCard_holds:Rows.SpecNamesUptoCardSaid :=
 Claim7.holds_tied_plain_at .later [] [.data] true (true, "af1eb4aa374c2e3dd69c5c9817f85b1a6cdcec3da2eeec107d08e6b5e0d4b1bf") true
  specNames_holds (fun _ h=>by cases h) (by kernel_rfl) (fun _ h=>by cases h) specNamesUpto_row_tie rfl ⟨rfl,rfl⟩ (by kernel_rfl) rfl
  (fun f fn hf hfn=>by
   obtain rfl : f = 3 := Option.some.inj ((show Tryz.prog.funcNamed "cognate/cognatelaw25.SpecNames" = some 3 by kernel_rfl).symm.trans hf) |>.symm
   obtain rfl:fn=Tryz.f3:=(Option.some.inj (Tryz.func3.symm.trans hfn)).symm
   exact ⟨by kernel_rfl,fun j t ht=>by
    rw [Tryz.params3] at ht
    have hm:t∈[29,30,25]:=by simpa using Array.mem_of_getElem? ht
    have hall:([29,30,25].all fun u => !Tryz.prog.wantsStandIn u)=true:=by kernel_rfl
    exact (show Tryz.prog.wantsStandIn t=false by simpa using List.all_eq_true.1 hall t hm)⟩)
  jf_goes
#print axioms specNamesCard_holds
end Go.Proofs.YtlkagbbbhkkogaaGreatDoor
