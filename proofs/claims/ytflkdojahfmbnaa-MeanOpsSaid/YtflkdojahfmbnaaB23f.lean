/- The run of the example: its code, and the deferred closure that does nothing. -/
import Derived.Test.YtflkdojahfmbnaaB23e
namespace Go.Proofs.Ytflkdojahfmbnaa
open Go.RowKit
theorem PCall.toM {P : Program} {f : FuncId} {vs : List AV} {v : AV} (h : PCall P f vs v) (r : Res) : MCall P f vs r v r :=
  (h.frame [r]).mono (by rintro v M' ⟨M0, rfl, rfl, rfl⟩; exact ⟨rfl, rfl⟩)
theorem strRun_c (b : Nat) (o i u e : AV) (s : ByteArray) : MCall Try.prog 44 [.ptr b 0, e, .cptr [.clo (.func 32) [] [.cptr (vlC 1 s)]]] (.loc b (mcC o i u 9 1 1)) (.agg (vlC 1 s)) (.loc b (mcC o i u 9 2 1)) :=
  wrap1_c b o i u u e _ 9 1 2 1 _ [] [.cptr (vlC 1 s)] (by decide) (by decide) (by decide) (by decide) (by decide) (vlC 1 s) rfl rfl ((strC_c (.ptr b 0) e s).toM _)
theorem putRun_c (b : Nat) (o i e : AV) (s : ByteArray) : MCall Try.prog 44 [.ptr b 0, e, .cptr [.clo (.func 40) [] [.cptr (putE s), .cptr [.seq 1 [[strF s]]]]]] (.loc b (mcC o i (.val (.slice none 0 0)) 9 0 0)) (.agg (vlC 2 kUnit)) (.loc b (mcC o i (.seq 1 [[.val (.string s)]]) 9 2 0)) :=
  wrap1_c b o i _ _ e _ 9 0 2 0 _ [] _ (by decide) (by decide) (by decide) (by decide) (by decide) (vlC 2 kUnit) rfl rfl
    (put_c b o i 9 1 s e _ _ [] [.cptr [.clo (.func 32) [] [.cptr (vlC 1 s)]]] 2 _ (strRun_c b o i (.val (.slice none 0 0)) e s))
theorem idle_c : IdleC Try.prog 43 1 := by
  refine ⟨enters_of Try.func43 (by kernel_rfl) rfl, fun args w ha => ?_⟩
  obtain ⟨a0, rfl⟩ := Array.size_eq_one_iff.1 ha
  refine callsDIn_of_wpSIn Try.func43 rfl trivial fun c₀ cs hu => ?_
  apply wpSIn_seq
  apply wpSIn_region
  simp [wpOpsSIn, go_sem, recoverD, hu, Exit.thenS]
  apply wpSIn_seq
  apply wpSIn_region
  simp [wpOpsSIn, go_sem, Exit.thenS]
  refine wpSIn_cond (t := false) (by simp [Act.eval, Array.replicate]) ?_
  simp only [Bool.false_eq_true, if_false]
  refine wpSIn_of_wpIn rfl (wpIn_skip ?_)
  cases c₀
  simp_all [bodyPostS, results, Try.f43]
end Go.Proofs.Ytflkdojahfmbnaa
