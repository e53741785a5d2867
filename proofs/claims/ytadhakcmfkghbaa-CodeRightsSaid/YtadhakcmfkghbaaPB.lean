/- When an instruction of a code is right, in plain words. -/
import Derived.Test.YtadhakcmfkghbaaPD
import Derived.Test.YtadhakcmfkghbaaAL14
namespace Go.Proofs.Ytadhakcmfkghbaa
open Go.RowKit
def AtomP (f : Cf) (gl : Int) (a : Ato) : Prop := a.k = 1 ∨ (0 ≤ a.n ∧ ((a.k = 2 ∧ a.n < f.sl) ∨ (a.k = 3 ∧ a.n < f.cp) ∨ (a.k = 4 ∧ a.n < gl)))
def opOk (op : Int) : Bool := decide (1 ≤ op ∧ op ≤ 15)
def opA (op : Int) : Bool := decide (op = 1 ∨ op = 2 ∨ op = 3 ∨ op = 4 ∨ op = 5 ∨ op = 8 ∨ op = 9 ∨ op = 10)
def opB (op : Int) : Bool := decide (op = 2 ∨ op = 13 ∨ op = 14)
def opN (op : Int) : Bool := decide (op = 3 ∨ op = 8 ∨ op = 9 ∨ op = 12 ∨ op = 13)
def opS (op : Int) : Bool := decide (op = 13)
def opG (op : Int) : Int := if op = 5 ∨ op = 6 then 2 else if op = 1 ∨ op = 7 ∨ op = 9 ∨ op = 10 ∨ op = 11 then 1 else if op = 3 ∨ op = 8 then -1 else 0
theorem opOk_iff (op : Int) : opOk op = true ↔ 1 ≤ op ∧ op ≤ 15 := by simp [opOk]
theorem opA_iff (op : Int) : opA op = true ↔ (op = 1 ∨ op = 2 ∨ op = 3 ∨ op = 4 ∨ op = 5 ∨ op = 8 ∨ op = 9 ∨ op = 10) := by simp [opA]
theorem opB_iff (op : Int) : opB op = true ↔ (op = 2 ∨ op = 13 ∨ op = 14) := by simp [opB]
theorem opN_iff (op : Int) : opN op = true ↔ (op = 3 ∨ op = 8 ∨ op = 9 ∨ op = 12 ∨ op = 13) := by simp [opN]
def PlaP (c : Cd) (f : Cf) (fr to : Int) (i : Is) (fa fb : Bool) : Prop := (fa = false → i.a = 0) ∧ (fb = false → i.b = 0) ∧ (fa = true → 0 ≤ i.a ∧ ((i.op = 10 → i.a < c.gl) ∧ (i.op ≠ 10 → i.a < f.sl))) ∧ (fb = true → (i.op = 2 → 0 ≤ i.b ∧ i.b < c.tx.length) ∧ (i.op ≠ 2 → fr ≤ i.b ∧ i.b < to))
def NumP (ps : List Pm) (i : Is) (fn : Bool) (ag : Int) : Prop := (i.op = 3 → 0 < i.ar.length ∧ 0 ≤ i.n ∧ i.n ≤ 65535) ∧ (i.op = 8 → 1 ≤ i.n ∧ i.n ≤ ps.length ∧ ∀ p, ps[(i.n - 1).toNat]? = some p → (i.ar.length : Int) = p.n) ∧ (i.op = 9 ∨ i.op = 12 → 0 ≤ i.n ∧ i.n ≤ 1048576 ∧ (i.ar.length : Int) = ag) ∧ (i.op ≠ 3 ∧ i.op ≠ 8 ∧ i.op ≠ 9 ∧ i.op ≠ 12 → (fn = true ∨ i.n = 0) ∧ (i.ar.length : Int) = ag)
def CapP (c : Cd) (f : Cf) (n : Int) (l : List Ato) : Prop := 1 ≤ n ∧ n < c.fu.length ∧ (∀ g, c.fu[n.toNat]? = some g → (l.length : Int) = g.cp) ∧ ∀ a ∈ l, AtomP f c.gl a
def FixP (c : Cd) (f : Cf) (i : Is) : Prop := (i.op ≠ 4 → i.fs = [] ∧ i.cp = []) ∧ (i.op = 4 → i.fs ≠ [] ∧ i.cp.length = i.fs.length ∧ i.a ≤ f.sl - i.fs.length ∧ ∀ (k : Nat) n l, i.fs[k]? = some n → i.cp[k]? = some l → CapP c f n l)
def InsP (ps : List Pm) (c : Cd) (f : Cf) (fr to : Int) (i : Is) : Prop := opOk i.op = true ∧ PlaP c f fr to i (opA i.op) (opB i.op) ∧ NumP ps i (opN i.op) (opG i.op) ∧ (∀ a ∈ i.ar, AtomP f c.gl a) ∧ FixP c f i
theorem ne_nil_iff {α : Type} (l : List α) : l ≠ [] ↔ 0 < l.length := by cases l <;> simp
end Go.Proofs.Ytadhakcmfkghbaa
