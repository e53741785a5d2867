/- Parts of a proof: The evaluator: what is known of a call: L22.; The evaluator: what is known of a call: L25.; The evaluator: awake. -/
import Derived.Test.YtlkagbbbhkkogaaGreatDoorKLKSpec7
set_option maxRecDepth 100000
set_option maxHeartbeats 4000000
namespace Go.Proofs.YtlkagbbbhkkogaaGreatDoor
namespace NE
theorem kL22_s:KnS Tryz.prog kL22:=kn_of (evF_s (H:=hnt) (K:=[kPrims,kP06]) hm_s hN_s (by simp only [List.mem_cons,List.not_mem_nil,or_false,forall_eq_or_imp,forall_eq];exact ⟨kPrims_s,kP06_s⟩) 100) (r:=rL22) (by kernel_rfl)
end NE
namespace NE
theorem kL25_s:KnS Tryz.prog kL25:=kn_of (evF_s (H:=hnt) (K:=[kPrims,kL22]) hm_s hN_s (by simp only [List.mem_cons,List.not_mem_nil,or_false,forall_eq_or_imp,forall_eq];exact ⟨kPrims_s,kL22_s⟩) 100) (r:=rL25) (by kernel_rfl)
end NE
namespace NE
theorem awake25_c:ACall Tryz.prog 5 [] [.fact KidF] (fun v M'=>v=.val (.bool true)∧M'=[.fact KidF]):=call_true (evF_s (H:=hnt) (K:=[kPrims,kL25]) hm_s hN_s (by simp only [List.mem_cons,List.not_mem_nil,or_false,forall_eq_or_imp,forall_eq];exact ⟨kPrims_s,kL25_s⟩) 100) (by kernel_rfl)
end NE
end Go.Proofs.YtlkagbbbhkkogaaGreatDoor
