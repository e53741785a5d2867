/- More rules: a rune as a text; a part of a text; contracts of the model's own kind; bools that are known. -/
import Derived.Test.YtflkdojahfmbnaaAO
namespace Go.Proofs.Ytflkdojahfmbnaa
open Go.RowKit
theorem wrap32 {x : Int} (h0 : 0 ≤ x) (h1 : x ≤ 2147483647) : IntKind.i32.wrap x = x := by
  unfold IntKind.wrap
  have e : x % (2 ^ IntKind.i32.bits : Int) = x := Int.emod_eq_of_lt h0 (by simp [IntKind.bits]; omega)
  simp only [e]
  rw [if_neg]
  simp [IntKind.signed, IntKind.bits]
  omega
section
variable {P : Program} {n : Nat} {al : Sl} {M : Mem} {o : Oper} {K : AV → Mem → Prop}
theorem op_runestr {x : Operand} {t t' : TypeId} {k k' : IntKind} {a : Int} (ho : o.op = .convert t t' x) (ht : P.underlying t = some (.int k')) (ht' : P.underlying t' = some .string) (hx : al.ev x = some (.val (.int k a))) (q : K (.val (.string (Utf8.encode a))) M) : OpT P o al M K :=
  OpT.plain fun n B F Mf ac w hi hs => ⟨_, _, by simp [execOp, ho, ev_val hs hx, convert, underlying, ht, ht', Conv.intToString], q, .val _⟩
theorem op_substr {x lo hi : Operand} {t : TypeId} {s : ByteArray} {k k' : IntKind} {a b : Int} {i j : Nat} (ho : o.op = .slice t x (some lo) (some hi) none) (ht : P.underlying t = some .string) (hx : al.ev x = some (.val (.string s))) (hlo : al.ev lo = some (.val (.int k a))) (hhi : al.ev hi = some (.val (.int k' b))) (ha : a = i) (hb : b = j) (hij : i ≤ j) (hj : j ≤ s.size) (q : K (.val (.string (s.extract i j))) M) : OpT P o al M K :=
  OpT.plain fun n B F Mf ac w hi' hs => by
    refine ⟨_, _, ?_, q, .val _⟩
    subst ha hb
    have h1 : (0 : Int) ≤ (j : Int) ∧ (j : Int) ≤ (s.size : Int) := ⟨by omega, by omega⟩
    have h2 : (0 : Int) ≤ (i : Int) ∧ (i : Int) ≤ (j : Int) := ⟨by omega, by omega⟩
    simp [execOp, ho, ev_val hs hx, ev_val hs hlo, ev_val hs hhi, Instr.sliceAt, underlying, ht, Instr.slice, Instr.sliceBounds, Instr.sliceBound, asIntOf, hj, hij]
theorem BCall.yes {f : FuncId} {vs : List AV} {p : Prop} (h : BCall P f vs p) (hp : p) : PCall P f vs (.val (.bool true)) :=
  h.mono (by rintro v M' ⟨⟨c, hc, rfl⟩, rfl⟩; exact ⟨by rw [hc.2 hp], rfl⟩)
theorem BCall.no {f : FuncId} {vs : List AV} {p : Prop} (h : BCall P f vs p) (hp : ¬ p) : PCall P f vs (.val (.bool false)) :=
  h.mono (by rintro v M' ⟨⟨c, hc, rfl⟩, rfl⟩; exact ⟨by cases c <;> simp_all, rfl⟩)
/-- nothing old has turned: the words still hold -/
theorem Inv.kept {B : Nat} {F : EH} {M : Mem} {w w' : World} (hi : Inv B F M w) (hb : Below w.heap.size w w') : Inv B F M w' := by
  refine ⟨Nat.le_trans hi.base hb.size, fun b i x h => ?_, fun r hr => ?_, hi.far⟩
  · have h1 := hi.fix b i x h
    rw [hb.cell (p := ⟨b, i, none⟩) (cell_size h1)]; exact h1
  · exact (hi.ok r hr).stay (Ext.refl F) (fun b hbk => ⟨hb.block b ((hi.ok r hr).lt hbk), fun _ => rfl⟩)
/-- a contract over plain values, in the words of the logic -/
theorem PCall.of_calls {f : FuncId} {vs : List Value} {r : Value} (he : Enters P f) (h : ∀ w, Calls P f vs.toArray w fun e w' => e = .returned r ∧ Below w.heap.size w w') : PCall P f (vs.map AV.val) (.val r) := by
  refine ⟨he, fun B F Mf w us hi hr => ?_⟩
  have e : us = vs := by
    have key : ∀ (vs us : List Value), Rels F (vs.map AV.val) us → us = vs := by
      intro vs
      induction vs with
      | nil => intro us h; cases h; rfl
      | cons v vs ih =>
        intro us h
        cases h with
        | cons h hs => cases h; rw [ih _ hs]
    exact key vs us hr
  subst e
  refine (h w).mono ?_
  rintro e w' ⟨rfl, hb⟩
  exact ⟨r, .val r, [], F, rfl, ⟨rfl, rfl⟩, .val r, Ext.refl F, hi.kept hb, hb.mono hi.base⟩
end
end Go.Proofs.Ytflkdojahfmbnaa
