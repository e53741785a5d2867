/- Bytes as a text. -/
import Derived.Test.YtflkdojahfmbnaaAX
import Derived.Laws.BytesArg
namespace Go.Proofs.Ytflkdojahfmbnaa
open Go.RowKit
section
variable {P : Program} {n : Nat} {al : Sl} {M : Mem} {o : Oper} {K : AV → Mem → Prop}
def bts (xs : List Int) : List (List AV) := xs.map fun b => [.val (.int .u8 b)]
theorem bts_flat (xs : List Int) : (bts xs).flatten = xs.map fun b => AV.val (.int .u8 b) := by
  induction xs with
  | nil => rfl
  | cons x xs ih => unfold bts at *; rw [List.map_cons, List.flatten_cons, ih]; rfl
theorem rels_vals {F : EH} : ∀ {vs us : List Value}, Rels F (vs.map AV.val) us → us = vs
  | [], us, h => by cases h; rfl
  | v :: vs, us, h => by
    cases h with
    | cons h hs => cases h; rw [rels_vals hs]
theorem op_bytestr {x : Operand} {t t' e : TypeId} {v : AV} {xs : List Int} (ho : o.op = .convert t t' x) (ht : P.underlying t = some (.slice e)) (he : P.underlying e = some (.int .u8)) (ht' : P.underlying t' = some .string) (hx : al.ev x = some v) (hv : IsSeq v 1 (bts xs)) (h0 : xs ≠ []) (q : K (.val (.string (strOfNums xs))) M) : OpT P o al M K :=
  OpT.plain fun n B F Mf ac w hi hs => by
    have h := hv.rel (hs.ev hx)
    generalize hu : ac.eval x = u at h
    generalize hes : bts xs = es at h
    cases h with
    | seq0 _ ao cap _ => exact absurd (by simpa [bts] using hes) h0
    | seq b off cap hm hn hl h h1 hcq =>
      subst hes
      rw [bts_flat, show (xs.map fun b => AV.val (.int .u8 b)) = (xs.map (Value.int .u8)).map AV.val from by simp] at h
      have := rels_vals h
      subst this
      have hlen : (bts xs).length = xs.length := by simp [bts]
      refine ⟨_, _, ?_, q, .val _⟩
      have := run_convert_bytes_arg (P := P) w t e ht he b off xs.length cap xs rfl (fun i hi' => hi.fix _ _ _ (hl i _ (by simp [hi']))) t' ht'
      simp [execOp, ho, hu, hlen, this]
theorem op_beqlc {x y : Operand} {t t' : TypeId} {a b : Bool} (ho : o.op = .binOp .eql t x y t') (ht : P.underlying t = some .bool) (hx : al.ev x = some (.val (.bool a))) (hy : al.ev y = some (.val (.bool b))) (q : ∀ c : Bool, (c = true ↔ a = b) → K (.val (.bool c)) M) : OpT P o al M K :=
  op_beql ho ht hx hy (q _ (by simp))
theorem op_bneqc {x y : Operand} {t t' : TypeId} {a b : Bool} (ho : o.op = .binOp .neq t x y t') (ht : P.underlying t = some .bool) (hx : al.ev x = some (.val (.bool a))) (hy : al.ev y = some (.val (.bool b))) (q : ∀ c : Bool, (c = true ↔ a ≠ b) → K (.val (.bool c)) M) : OpT P o al M K :=
  op_bneq ho ht hx hy (q _ (by simp))
end
end Go.Proofs.Ytflkdojahfmbnaa
