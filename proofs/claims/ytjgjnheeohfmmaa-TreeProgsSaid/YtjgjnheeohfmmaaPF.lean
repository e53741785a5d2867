/- Names of patterns, free names of expressions, as plain functions. -/
import Derived.Test.YtjgjnheeohfmmaaPE
namespace Go.Proofs.Ytjgjnheeohfmmaa
open Go.RowKit
abbrev Txt := ByteArray
mutual
def Pa.names : Pa → List Txt
  | .mk k s _ ks _ => (if k = 2 then [s] else []) ++ Pa.namess ks
def Pa.namess : List Pa → List Txt
  | [] => []
  | t :: ts => t.names ++ Pa.namess ts
end
mutual
def Pa.size : Pa → Nat
  | .mk _ _ _ ks _ => 1 + Pa.sizes ks
def Pa.sizes : List Pa → Nat
  | [] => 0
  | t :: ts => t.size + Pa.sizes ts
end
theorem Pa.sizes_map : ∀ ts : List Pa, Pa.sizes ts = (ts.map Pa.size).sum
  | [] => by simp [Pa.sizes]
  | t :: ts => by simp [Pa.sizes, Pa.sizes_map ts]
theorem Pa.namess_flat : ∀ ts : List Pa, Pa.namess ts = (ts.map Pa.names).flatten
  | [] => by simp [Pa.namess]
  | t :: ts => by simp [Pa.namess, Pa.namess_flat ts]
mutual
theorem Pa.names_len : ∀ q : Pa, q.names.length ≤ q.size
  | .mk k s n ks p => by
    have := Pa.namess_len ks
    rw [Pa.names, Pa.size, List.length_append]
    split <;> simp <;> omega
theorem Pa.namess_len : ∀ qs : List Pa, (Pa.namess qs).length ≤ Pa.sizes qs
  | [] => by simp [Pa.namess]
  | q :: qs => by
    have h1 := Pa.names_len q
    have h2 := Pa.namess_len qs
    rw [Pa.namess, Pa.sizes, List.length_append]; omega
end
theorem Pa.size_kid {x : Pa} {ks : List Pa} (h : x ∈ ks) : x.size ≤ Pa.sizes ks := by
  rw [Pa.sizes_map]; exact sum_mem (List.mem_map.2 ⟨x, h, rfl⟩)
theorem Pa.namess_take {ts : List Pa} {i : Nat} {x : Pa} (h : ts[i]? = some x) : Pa.namess (ts.take (i + 1)) = Pa.namess (ts.take i) ++ x.names := by
  rw [Pa.namess_flat, Pa.namess_flat, List.take_add_one, h]; simp
theorem Pa.sizes_take {ts : List Pa} {i : Nat} {x : Pa} (h : ts[i]? = some x) : Pa.sizes (ts.take i) + x.size ≤ Pa.sizes ts := by
  have h1 : (ts.map Pa.size)[i]? = some x.size := by simp [h]
  have h2 := sum_take h1
  have h3 := sum_take_le (ts.map Pa.size) (i + 1)
  rw [Pa.sizes_map, Pa.sizes_map, List.map_take]; omega
mutual
/-- how much an expression may bind and name -/
def Ex.w : Ex → Nat
  | .mk _ _ _ _ ks al bs _ => 1 + Ex.ws ks + Al.ws al + Bi.ws bs
def Ex.ws : List Ex → Nat
  | [] => 0
  | t :: ts => t.w + Ex.ws ts
def Al.w : Al → Nat
  | .mk q e => q.size + e.w
def Al.ws : List Al → Nat
  | [] => 0
  | t :: ts => t.w + Al.ws ts
def Bi.w : Bi → Nat
  | .mk _ e _ => 1 + e.w
def Bi.ws : List Bi → Nat
  | [] => 0
  | t :: ts => t.w + Bi.ws ts
end
theorem Ex.ws_map : ∀ ts : List Ex, Ex.ws ts = (ts.map Ex.w).sum
  | [] => by simp [Ex.ws]
  | t :: ts => by simp [Ex.ws, Ex.ws_map ts]
theorem Al.ws_map : ∀ ts : List Al, Al.ws ts = (ts.map Al.w).sum
  | [] => by simp [Al.ws]
  | t :: ts => by simp [Al.ws, Al.ws_map ts]
theorem Bi.ws_map : ∀ ts : List Bi, Bi.ws ts = (ts.map Bi.w).sum
  | [] => by simp [Bi.ws]
  | t :: ts => by simp [Bi.ws, Bi.ws_map ts]
theorem sum_at {α : Type} (f : α → Nat) {ts : List α} {i : Nat} {x : α} (h : ts[i]? = some x) : ((ts.take i).map f).sum + f x ≤ (ts.map f).sum ∧ ((ts.take (i + 1)).map f).sum = ((ts.take i).map f).sum + f x := by
  have h1 : (ts.map f)[i]? = some (f x) := by simp [h]
  have h2 := sum_take h1
  have h3 := sum_take_le (ts.map f) (i + 1)
  rw [← List.map_take] at h2
  rw [← List.map_take] at h2 h3
  omega
theorem Bi.len_ws (ts : List Bi) : ts.length ≤ Bi.ws ts := by
  induction ts with
  | nil => simp [Bi.ws]
  | cons t ts ih => cases t; rw [Bi.ws, Bi.w, List.length_cons]; omega
abbrev Bi.names (bs : List Bi) : List Txt := bs.map Bi.s
mutual
/-- free names, gathered behind others, but for those that are bound -/
noncomputable def Ex.fr : Ex → List Txt → List Txt → List Txt
  | .mk k s n _ ks al bs _, bd, out =>
    Al.frs al bd (if k = 7 then (if n = 1 then Ex.frs ks (bd ++ Bi.names bs) (Bi.frs bs (bd ++ Bi.names bs) (if k = 3 ∧ s ∉ bd ∧ s ∉ out then out ++ [s] else out)) else Ex.frs ks (bd ++ Bi.names bs) (Bi.frs bs bd (if k = 3 ∧ s ∉ bd ∧ s ∉ out then out ++ [s] else out)))
      else if k = 6 then Bi.frs bs bd (Ex.frs ks (bd ++ [s]) (if k = 3 ∧ s ∉ bd ∧ s ∉ out then out ++ [s] else out))
      else Bi.frs bs bd (Ex.frs ks bd (if k = 3 ∧ s ∉ bd ∧ s ∉ out then out ++ [s] else out)))
noncomputable def Ex.frs : List Ex → List Txt → List Txt → List Txt
  | [], _, out => out
  | t :: ts, bd, out => Ex.frs ts bd (t.fr bd out)
noncomputable def Al.fr : Al → List Txt → List Txt → List Txt
  | .mk q e, bd, out => e.fr (bd ++ q.names) out
noncomputable def Al.frs : List Al → List Txt → List Txt → List Txt
  | [], _, out => out
  | t :: ts, bd, out => Al.frs ts bd (t.fr bd out)
noncomputable def Bi.fr : Bi → List Txt → List Txt → List Txt
  | .mk _ e _, bd, out => e.fr bd out
noncomputable def Bi.frs : List Bi → List Txt → List Txt → List Txt
  | [], _, out => out
  | t :: ts, bd, out => Bi.frs ts bd (t.fr bd out)
end
theorem Ex.frs_app (bd : List Txt) : ∀ (a b : List Ex) (out : List Txt), Ex.frs (a ++ b) bd out = Ex.frs b bd (Ex.frs a bd out)
  | [], b, out => by simp [Ex.frs]
  | t :: a, b, out => by simp only [List.cons_append, Ex.frs]; exact Ex.frs_app bd a b _
theorem Al.frs_app (bd : List Txt) : ∀ (a b : List Al) (out : List Txt), Al.frs (a ++ b) bd out = Al.frs b bd (Al.frs a bd out)
  | [], b, out => by simp [Al.frs]
  | t :: a, b, out => by simp only [List.cons_append, Al.frs]; exact Al.frs_app bd a b _
theorem Bi.frs_app (bd : List Txt) : ∀ (a b : List Bi) (out : List Txt), Bi.frs (a ++ b) bd out = Bi.frs b bd (Bi.frs a bd out)
  | [], b, out => by simp [Bi.frs]
  | t :: a, b, out => by simp only [List.cons_append, Bi.frs]; exact Bi.frs_app bd a b _
theorem Ex.frs_take {bd out : List Txt} {ts : List Ex} {i : Nat} {x : Ex} (h : ts[i]? = some x) : Ex.frs (ts.take (i + 1)) bd out = x.fr bd (Ex.frs (ts.take i) bd out) := by
  rw [List.take_add_one, h, Ex.frs_app]; simp [Ex.frs]
theorem Al.frs_take {bd out : List Txt} {ts : List Al} {i : Nat} {x : Al} (h : ts[i]? = some x) : Al.frs (ts.take (i + 1)) bd out = x.fr bd (Al.frs (ts.take i) bd out) := by
  rw [List.take_add_one, h, Al.frs_app]; simp [Al.frs]
theorem Bi.frs_take {bd out : List Txt} {ts : List Bi} {i : Nat} {x : Bi} (h : ts[i]? = some x) : Bi.frs (ts.take (i + 1)) bd out = x.fr bd (Bi.frs (ts.take i) bd out) := by
  rw [List.take_add_one, h, Bi.frs_app]; simp [Bi.frs]
mutual
theorem Ex.fr_len : ∀ (e : Ex) (bd out : List Txt), (e.fr bd out).length ≤ out.length + e.w
  | .mk k s n t ks al bs p, bd, out => by
    rw [Ex.fr, Ex.w]
    have h0 : (if k = 3 ∧ s ∉ bd ∧ s ∉ out then out ++ [s] else out).length ≤ out.length + 1 := by split <;> simp
    generalize (if k = 3 ∧ s ∉ bd ∧ s ∉ out then out ++ [s] else out) = o1 at h0
    refine Nat.le_trans (Al.frs_len al _ _) ?_
    have h1 := fun b1 b2 => Ex.frs_len ks b1 (Bi.frs bs b2 o1)
    have h2 := fun b2 => Bi.frs_len bs b2 o1
    have h3 := fun b1 b2 => Bi.frs_len bs b1 (Ex.frs ks b2 o1)
    have h4 := fun b2 => Ex.frs_len ks b2 o1
    split
    · split
      · have := h1 (bd ++ Bi.names bs) (bd ++ Bi.names bs); have := h2 (bd ++ Bi.names bs); omega
      · have := h1 (bd ++ Bi.names bs) bd; have := h2 bd; omega
    · split
      · have := h3 bd (bd ++ [s]); have := h4 (bd ++ [s]); omega
      · have := h3 bd bd; have := h4 bd; omega
theorem Ex.frs_len : ∀ (es : List Ex) (bd out : List Txt), (Ex.frs es bd out).length ≤ out.length + Ex.ws es
  | [], bd, out => by simp [Ex.frs]
  | e :: es, bd, out => by
    have h1 := Ex.fr_len e bd out
    have h2 := Ex.frs_len es bd (e.fr bd out)
    rw [Ex.frs, Ex.ws]; omega
theorem Al.fr_len : ∀ (e : Al) (bd out : List Txt), (e.fr bd out).length ≤ out.length + e.w
  | .mk q e, bd, out => by
    have h1 := Ex.fr_len e (bd ++ q.names) out
    rw [Al.fr, Al.w]; omega
theorem Al.frs_len : ∀ (es : List Al) (bd out : List Txt), (Al.frs es bd out).length ≤ out.length + Al.ws es
  | [], bd, out => by simp [Al.frs]
  | e :: es, bd, out => by
    have h1 := Al.fr_len e bd out
    have h2 := Al.frs_len es bd (e.fr bd out)
    rw [Al.frs, Al.ws]; omega
theorem Bi.fr_len : ∀ (e : Bi) (bd out : List Txt), (e.fr bd out).length ≤ out.length + e.w
  | .mk _ e _, bd, out => by
    have h1 := Ex.fr_len e bd out
    rw [Bi.fr, Bi.w]; omega
theorem Bi.frs_len : ∀ (es : List Bi) (bd out : List Txt), (Bi.frs es bd out).length ≤ out.length + Bi.ws es
  | [], bd, out => by simp [Bi.frs]
  | e :: es, bd, out => by
    have h1 := Bi.fr_len e bd out
    have h2 := Bi.frs_len es bd (e.fr bd out)
    rw [Bi.frs, Bi.ws]; omega
end
end Go.Proofs.Ytjgjnheeohfmmaa
