/- When an instruction is right, as the document says it. -/
import Derived.Test.YtadhakcmfkghbaaPB
import Derived.Test.YtadhakcmfkghbaaB19q
namespace Go.Proofs.Ytadhakcmfkghbaa
open Go.RowKit
def takes (n : Int) : Int := if n < 1 ∨ n > 17 then -1 else if n < 11 ∨ n = 17 then 2 else 1
def one1 (op : Int) : Prop := op = 1 ∨ op = 7 ∨ op = 9 ∨ op = 10 ∨ op = 11
def two2 (op : Int) : Prop := op = 5 ∨ op = 6
def lst3 (op : Int) : Prop := op = 3 ∨ op = 8
theorem takes_iff (n : Int) (len : Nat) : (1 ≤ n ∧ n ≤ prims.length ∧ ∀ p, prims[(n - 1).toNat]? = some p → (len : Int) = p.n) ↔ (len : Int) = takes n := by
  have hl := prims_len
  have hn := prims_n
  by_cases h : n < 1 ∨ n > 17
  · have e : takes n = -1 := by unfold takes; rw [if_pos h]
    rw [e]
    constructor
    · intro q; omega
    · intro q; omega
  · have hlt : (n - 1).toNat < prims.length := by omega
    have hget : prims[(n - 1).toNat]? = some prims[(n - 1).toNat] := List.getElem?_eq_getElem hlt
    have hv : (prims[(n - 1).toNat]).n = takes n := by
      have e : (prims.map Pm.n)[(n - 1).toNat]? = some (prims[(n - 1).toNat]).n := by rw [List.getElem?_map, hget]; rfl
      rw [hn] at e
      have hc : n = 1 ∨ n = 2 ∨ n = 3 ∨ n = 4 ∨ n = 5 ∨ n = 6 ∨ n = 7 ∨ n = 8 ∨ n = 9 ∨ n = 10 ∨ n = 11 ∨ n = 12 ∨ n = 13 ∨ n = 14 ∨ n = 15 ∨ n = 16 ∨ n = 17 := by omega
      generalize (prims[(n - 1).toNat]).n = v at e
      rcases hc with rfl | rfl | rfl | rfl | rfl | rfl | rfl | rfl | rfl | rfl | rfl | rfl | rfl | rfl | rfl | rfl | rfl <;> simp [takes] at e ⊢ <;> omega
    rw [← hv]
    constructor
    · intro q; exact q.2.2 _ hget
    · intro q
      refine ⟨by omega, by omega, fun p hp => ?_⟩
      rw [hget] at hp; cases hp; exact q
def topOf (op gl sl : Int) : Int := if op = 10 then gl else sl
def RefP (c : Cd) (f : Cf) (fr : Int) (i : Is) : Prop :=
  (1 ≤ i.op ∧ i.op ≤ 15) ∧ (∀ a ∈ i.ar, AtomP f c.gl a) ∧
  ((opA i.op = true → 0 ≤ i.a ∧ i.a < topOf i.op c.gl f.sl) ∧ (¬ opA i.op = true → i.a = 0) ∧ (¬ opB i.op = true → i.b = 0) ∧ (¬ opN i.op = true → i.n = 0)) ∧
  ((i.op = 2 → 0 ≤ i.b ∧ i.b < c.tx.length) ∧ (i.op > 12 ∧ opB i.op = true → fr ≤ i.b ∧ i.b < fr + f.len)) ∧
  ((one1 i.op → i.ar.length = 1) ∧ (two2 i.op → i.ar.length = 2) ∧ (¬ one1 i.op ∧ ¬ two2 i.op ∧ ¬ lst3 i.op → i.ar.length = 0)) ∧
  ((i.op = 3 → i.ar.length ≠ 0 ∧ 0 ≤ i.n ∧ i.n ≤ 65535) ∧ (i.op = 9 ∨ i.op = 12 → 0 ≤ i.n ∧ i.n ≤ 1048576)) ∧
  (i.op = 8 → (i.ar.length : Int) = takes i.n) ∧ FixP c f i
theorem InsP_iff (c : Cd) (f : Cf) (fr : Int) (i : Is) : InsP prims c f fr (fr + f.len) i ↔ RefP c f fr i := by
  unfold InsP RefP PlaP NumP
  rw [takes_iff]
  obtain ⟨op, a, b, n, ar, fs, ca⟩ := i
  simp only [Is.op, Is.a, Is.b, Is.n, Is.ar]
  rw [opOk_iff]
  generalize FixP c f ⟨op, a, b, n, ar, fs, ca⟩ = pF
  generalize (∀ a ∈ ar, AtomP f c.gl a) = pA
  generalize takes n = tn
  generalize c.gl = gl
  generalize f.sl = sl
  generalize c.tx.length = tl
  generalize f.len = fl
  generalize ar.length = al
  by_cases hop : 1 ≤ op ∧ op ≤ 15
  · have hc : op = 1 ∨ op = 2 ∨ op = 3 ∨ op = 4 ∨ op = 5 ∨ op = 6 ∨ op = 7 ∨ op = 8 ∨ op = 9 ∨ op = 10 ∨ op = 11 ∨ op = 12 ∨ op = 13 ∨ op = 14 ∨ op = 15 := by omega
    by_cases hA : pA <;> by_cases hF : pF
    · simp only [hA, hF, and_true, true_and]
      rcases hc with rfl | rfl | rfl | rfl | rfl | rfl | rfl | rfl | rfl | rfl | rfl | rfl | rfl | rfl | rfl <;> simp [opA, opB, opN, opG, one1, two2, lst3, topOf] <;> omega
    all_goals simp only [hA, hF, and_false, false_and, and_true]
  · simp only [hop, false_and]
end Go.Proofs.Ytadhakcmfkghbaa
