/- The functions of layer 2, in the words of the logic. -/
import Derived.Test.YtecpnlhjjmcllaaW02
import Derived.Test.YtecpnlhjjmcllaaW02h
import Derived.Test.YtecpnlhjjmcllaaAX
import Derived.Test.YtecpnlhjjmcllaaAL17
namespace Go.Proofs.Ytecpnlhjjmcllaa
open Go.RowKit
theorem PCall.of_callt {P : Program} {f : FuncId} {vs rs : List Value} (he : Enters P f) (h : ∀ w, Calls P f vs.toArray w fun e w' => e = .returned (.tuple rs.toArray) ∧ Below w.heap.size w w') : PCall P f (vs.map AV.val) (.tup (rs.map AV.val)) :=
  (PCall.of_calls he h).weak (by
    rintro v M' ⟨rfl, rfl⟩
    refine ⟨_, _, ?_, MLe.refl _, rfl, rfl⟩
    intro F u hr
    cases hr
    exact .tup (Rels.vals F rs))
theorem below_eq {w w' : World} (h : w = w') : Below w.heap.size w w' := by subst h; exact Below.refl _ _
theorem Int_p (n : Int) : PCall Try.prog 57 [.val (.int .i64 n)] (.val (.int .u64 (intW n))) :=
  PCall.of_calls (vs := [.int .i64 n]) (enters_of Try.func57 (by kernel_rfl) rfl) (fun w => (wInt_c n w).mono (fun _ _ ⟨h, k⟩ => ⟨h, below_eq k⟩))
theorem rInt_p (n : Int) : PCall Try.prog 53 [.val (.int .i64 n)] (.val (.int .u64 (intW n))) :=
  PCall.of_calls (vs := [.int .i64 n]) (enters_of Try.func53 (by kernel_rfl) rfl) (fun w => (rInt_c n w).mono (fun _ _ ⟨h, k⟩ => ⟨h, below_eq k⟩))
theorem IsInt_p (w0 : Int) (h1 : 0 ≤ w0) (h2 : w0 ≤ 18446744073709551615) : PCall Try.prog 62 [.val (.int .u64 w0)] (.val (.bool (isI w0))) :=
  PCall.of_calls (vs := [.int .u64 w0]) (enters_of Try.func62 (by kernel_rfl) rfl) (fun w => (IsInt_c w0 w h1 h2).mono (fun _ _ ⟨h, k⟩ => ⟨h, below_eq k⟩))
theorem ToInt_p (w0 : Int) (h1 : 0 ≤ w0) (h2 : w0 ≤ 18446744073709551615) : PCall Try.prog 63 [.val (.int .u64 w0)] (.tup [.val (.int .i64 (toI w0)), .val (.bool (isI w0))]) :=
  PCall.of_callt (vs := [.int .u64 w0]) (rs := [.int .i64 (toI w0), .bool (isI w0)]) (enters_of Try.func63 (by kernel_rfl) rfl) (fun w => (ToInt_c w0 w h1 h2).mono (fun _ _ ⟨h, k⟩ => ⟨h, below_eq k⟩))
theorem Ptr_p (a : Int) (h1 : -9223372036854775808 ≤ a) (h2 : a ≤ 9223372036854775807) : PCall Try.prog 48 [.val (.int .i64 a)] (.tup [.val (.int .u64 (ptrW a)), .val (.int .i64 (okE (ptrOk a)))]) :=
  PCall.of_callt (vs := [.int .i64 a]) (rs := [.int .u64 (ptrW a), .int .i64 (okE (ptrOk a))]) (enters_of Try.func48 (by kernel_rfl) rfl) (fun w => (Ptr_c a w h1 h2).mono (fun _ _ ⟨h, k⟩ => ⟨h, below_eq k⟩))
theorem At_p (w0 : Int) (h1 : 0 ≤ w0) (h2 : w0 ≤ 18446744073709551615) : PCall Try.prog 61 [.val (.int .u64 w0)] (.tup [.val (.int .i64 (atV w0)), .val (.bool (atOk w0))]) :=
  PCall.of_callt (vs := [.int .u64 w0]) (rs := [.int .i64 (atV w0), .bool (atOk w0)]) (enters_of Try.func61 (by kernel_rfl) rfl) (fun w => (At_c w0 w h1 h2).mono (fun _ _ ⟨h, k⟩ => ⟨h, below_eq k⟩))
theorem Head_p (k t s : Int) (k1 : -9223372036854775808 ≤ k) (k2 : k ≤ 9223372036854775807) (t1 : -9223372036854775808 ≤ t) (t2 : t ≤ 9223372036854775807) (s1 : -9223372036854775808 ≤ s) (s2 : s ≤ 9223372036854775807) : PCall Try.prog 47 [.val (.int .i64 k), .val (.int .i64 t), .val (.int .i64 s)] (.tup [.val (.int .u64 (headW k t s)), .val (.int .i64 (okE (headOk k t s)))]) :=
  PCall.of_callt (vs := [.int .i64 k, .int .i64 t, .int .i64 s]) (rs := [.int .u64 (headW k t s), .int .i64 (okE (headOk k t s))]) (enters_of Try.func47 (by kernel_rfl) rfl) (fun w => (Head_c k t s w k1 k2 t1 t2 s1 s2).mono (fun _ _ ⟨h, k⟩ => ⟨h, below_eq k⟩))
theorem Open_p (w0 : Int) (h1 : 0 ≤ w0) (h2 : w0 ≤ 18446744073709551615) : PCall Try.prog 45 [.val (.int .u64 w0)] (.tup [.val (.int .i64 (openK w0)), .val (.int .i64 (openT w0)), .val (.int .i64 (openS w0)), .val (.bool (openOk w0))]) :=
  PCall.of_callt (vs := [.int .u64 w0]) (rs := [.int .i64 (openK w0), .int .i64 (openT w0), .int .i64 (openS w0), .bool (openOk w0)]) (enters_of Try.func45 (by kernel_rfl) rfl) (fun w => (Open_c w0 w h1 h2).mono (fun _ _ ⟨h, k⟩ => ⟨h, below_eq k⟩))
end Go.Proofs.Ytecpnlhjjmcllaa
