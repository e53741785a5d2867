/- Names of patterns, free names of expressions, as plain functions. -/
import Derived.Test.YtadhakcmfkghbaaPE
namespace Go.Proofs.Ytadhakcmfkghbaa
open Go.RowKit
abbrev Txt := ByteArray
mutual
def Pa.names : Pa → List Txt
  | .mk k s _ ks _ => (if k = 2 then [s] else []) ++ Pa.namess ks
def Pa.namess : List Pa → List Txt
  | [] => []
  | t :: ts => t.names ++ Pa.namess ts
end
mutual
def Pa.size : Pa → Nat
  | .mk _ _ _ ks _ => 1 + Pa.sizes ks
def Pa.sizes : List Pa → Nat
  | [] => 0
  | t :: ts => t.size + Pa.sizes ts
end
theorem Pa.sizes_map : ∀ ts : List Pa, Pa.sizes ts = (ts.map Pa.size).sum
  | [] => by simp [Pa.sizes]
  | t :: ts => by simp [Pa.sizes, Pa.sizes_map ts]
theorem Pa.sizes_take {ts : List Pa} {i : Nat} {x : Pa} (h : ts[i]? = some x) : Pa.sizes (ts.take i) + x.size ≤ Pa.sizes ts := by
  have h1 : (ts.map Pa.size)[i]? = some x.size := by simp [h]
  have h2 := sum_take h1
  have h3 := sum_take_le (ts.map Pa.size) (i + 1)
  rw [Pa.sizes_map, Pa.sizes_map, List.map_take]; omega
mutual
def Ex.w : Ex → Nat
  | .mk _ _ _ _ ks al bs _ => 1 + Ex.ws ks + Al.ws al + Bi.ws bs
def Ex.ws : List Ex → Nat
  | [] => 0
  | t :: ts => t.w + Ex.ws ts
def Al.w : Al → Nat
  | .mk q e => q.size + e.w
def Al.ws : List Al → Nat
  | [] => 0
  | t :: ts => t.w + Al.ws ts
def Bi.w : Bi → Nat
  | .mk _ e _ => 1 + e.w
def Bi.ws : List Bi → Nat
  | [] => 0
  | t :: ts => t.w + Bi.ws ts
end
abbrev Bi.names (bs : List Bi) : List Txt := bs.map Bi.s
mutual
noncomputable def Ex.fr : Ex → List Txt → List Txt → List Txt
  | .mk k s n _ ks al bs _, bd, out =>
    Al.frs al bd (if k = 7 then (if n = 1 then Ex.frs ks (bd ++ Bi.names bs) (Bi.frs bs (bd ++ Bi.names bs) (if k = 3 ∧ s ∉ bd ∧ s ∉ out then out ++ [s] else out)) else Ex.frs ks (bd ++ Bi.names bs) (Bi.frs bs bd (if k = 3 ∧ s ∉ bd ∧ s ∉ out then out ++ [s] else out)))
      else if k = 6 then Bi.frs bs bd (Ex.frs ks (bd ++ [s]) (if k = 3 ∧ s ∉ bd ∧ s ∉ out then out ++ [s] else out))
      else Bi.frs bs bd (Ex.frs ks bd (if k = 3 ∧ s ∉ bd ∧ s ∉ out then out ++ [s] else out)))
noncomputable def Ex.frs : List Ex → List Txt → List Txt → List Txt
  | [], _, out => out
  | t :: ts, bd, out => Ex.frs ts bd (t.fr bd out)
noncomputable def Al.fr : Al → List Txt → List Txt → List Txt
  | .mk q e, bd, out => e.fr (bd ++ q.names) out
noncomputable def Al.frs : List Al → List Txt → List Txt → List Txt
  | [], _, out => out
  | t :: ts, bd, out => Al.frs ts bd (t.fr bd out)
noncomputable def Bi.fr : Bi → List Txt → List Txt → List Txt
  | .mk _ e _, bd, out => e.fr bd out
noncomputable def Bi.frs : List Bi → List Txt → List Txt → List Txt
  | [], _, out => out
  | t :: ts, bd, out => Bi.frs ts bd (t.fr bd out)
end
end Go.Proofs.Ytadhakcmfkghbaa
