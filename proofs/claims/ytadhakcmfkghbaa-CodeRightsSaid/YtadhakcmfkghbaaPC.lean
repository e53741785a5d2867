/- How much an expression has, as cognatelaw05.Count counts it. -/
import Derived.Test.YtadhakcmfkghbaaPF
namespace Go.Proofs.Ytadhakcmfkghbaa
open Go.RowKit
def Ty.kn : Ty → Nat | .mk _ _ _ ks => ks.length
def Pa.kn : Pa → Nat | .mk _ _ _ ks _ => ks.length
mutual
def Ex.Lim : Ex → Prop
  | .mk _ _ _ t ks al bs _ => t.kn ≤ 140737488355328 ∧ Ex.Lims ks ∧ Bi.Lims bs ∧ Al.Lims al
def Ex.Lims : List Ex → Prop
  | [] => True
  | x :: xs => x.Lim ∧ Ex.Lims xs
def Bi.Lim : Bi → Prop
  | .mk _ e _ => e.Lim
def Bi.Lims : List Bi → Prop
  | [] => True
  | x :: xs => x.Lim ∧ Bi.Lims xs
def Al.Lim : Al → Prop
  | .mk q e => e.Lim ∧ q.kn ≤ 140737488355328
def Al.Lims : List Al → Prop
  | [] => True
  | x :: xs => x.Lim ∧ Al.Lims xs
end
mutual
def Ex.cnt : Ex → Int → Int
  | .mk _ _ _ t ks al bs _, m => Al.cnts al m (Bi.cnts bs m (Ex.cnts ks m (1 + t.kn)))
def Ex.cnts : List Ex → Int → Int → Int
  | [], _, n => n
  | x :: xs, m, n => if n < m then Ex.cnts xs m (n + x.cnt (m - n)) else n
def Bi.cnt : Bi → Int → Int
  | .mk _ e _, m => 1 + e.cnt m
def Bi.cnts : List Bi → Int → Int → Int
  | [], _, n => n
  | x :: xs, m, n => if n < m then Bi.cnts xs m (n + x.cnt (m - n)) else n
def Al.cnt : Al → Int → Int
  | .mk q e, m => 1 + e.cnt m + q.kn
def Al.cnts : List Al → Int → Int → Int
  | [], _, n => n
  | x :: xs, m, n => if n < m then Al.cnts xs m (n + x.cnt (m - n)) else n
end
theorem drop_get {α : Type} {l : List α} {i : Nat} {x : α} (h : l[i]? = some x) : l.drop i = x :: l.drop (i + 1) := by
  obtain ⟨hi, rfl⟩ := List.getElem?_eq_some_iff.1 h
  exact List.drop_eq_getElem_cons hi
theorem Ex.cellss_app (a b : List Ex) : Ex.cellss (a ++ b) = Ex.cellss a ++ Ex.cellss b := by simp [Ex.cellss_map]
end Go.Proofs.Ytadhakcmfkghbaa
