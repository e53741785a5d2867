/- Patterns and expressions as plain data: their cells, their parts, their sameness but for places. -/
import Derived.Test.YtadhakcmfkghbaaPU
namespace Go.Proofs.Ytadhakcmfkghbaa
open Go.RowKit
inductive Pa where
  | mk (k : Int) (s : ByteArray) (n : Int) (ks : List Pa) (p : Int)
mutual
inductive Ex where
  | mk (k : Int) (s : ByteArray) (n : Int) (t : Ty) (ks : List Ex) (al : List Al) (bs : List Bi) (p : Int)
inductive Al where
  | mk (q : Pa) (e : Ex)
inductive Bi where
  | mk (s : ByteArray) (e : Ex) (p : Int)
end
mutual
def Pa.cells : Pa → List AV
  | .mk k s n ks p => [.val (.int .i64 k), .val (.string s), .val (.int .i64 n), .seq 5 (Pa.cellss ks), .val (.int .i64 p)]
def Pa.cellss : List Pa → List (List AV)
  | [] => []
  | t :: ts => t.cells :: Pa.cellss ts
end
mutual
def Ex.cells : Ex → List AV
  | .mk k s n t ks al bs p => .val (.int .i64 k) :: .val (.string s) :: .val (.int .i64 n) :: (t.cells ++ [.seq 11 (Ex.cellss ks), .seq 16 (Al.cellss al), .seq 13 (Bi.cellss bs), .val (.int .i64 p)])
def Ex.cellss : List Ex → List (List AV)
  | [] => []
  | t :: ts => t.cells :: Ex.cellss ts
def Al.cells : Al → List AV
  | .mk q e => q.cells ++ e.cells
def Al.cellss : List Al → List (List AV)
  | [] => []
  | t :: ts => t.cells :: Al.cellss ts
def Bi.cells : Bi → List AV
  | .mk s e p => .val (.string s) :: (e.cells ++ [.val (.int .i64 p)])
def Bi.cellss : List Bi → List (List AV)
  | [] => []
  | t :: ts => t.cells :: Bi.cellss ts
end
theorem Pa.cellss_map : ∀ ts : List Pa, Pa.cellss ts = ts.map Pa.cells
  | [] => by simp [Pa.cellss]
  | t :: ts => by simp [Pa.cellss, Pa.cellss_map ts]
theorem Ex.cellss_map : ∀ ts : List Ex, Ex.cellss ts = ts.map Ex.cells
  | [] => by simp [Ex.cellss]
  | t :: ts => by simp [Ex.cellss, Ex.cellss_map ts]
theorem Al.cellss_map : ∀ ts : List Al, Al.cellss ts = ts.map Al.cells
  | [] => by simp [Al.cellss]
  | t :: ts => by simp [Al.cellss, Al.cellss_map ts]
theorem Bi.cellss_map : ∀ ts : List Bi, Bi.cellss ts = ts.map Bi.cells
  | [] => by simp [Bi.cellss]
  | t :: ts => by simp [Bi.cellss, Bi.cellss_map ts]
theorem Pa.cellss_len (ts : List Pa) : (Pa.cellss ts).length = ts.length := by rw [Pa.cellss_map]; simp
theorem Ex.cellss_len (ts : List Ex) : (Ex.cellss ts).length = ts.length := by rw [Ex.cellss_map]; simp
theorem Al.cellss_len (ts : List Al) : (Al.cellss ts).length = ts.length := by rw [Al.cellss_map]; simp
theorem Bi.cellss_len (ts : List Bi) : (Bi.cellss ts).length = ts.length := by rw [Bi.cellss_map]; simp
theorem Pa.cellss_get {ts : List Pa} {i : Nat} {t : Pa} (h : ts[i]? = some t) : (Pa.cellss ts)[i]? = some t.cells := by rw [Pa.cellss_map]; simp [h]
theorem Ex.cellss_get {ts : List Ex} {i : Nat} {t : Ex} (h : ts[i]? = some t) : (Ex.cellss ts)[i]? = some t.cells := by rw [Ex.cellss_map]; simp [h]
theorem Al.cellss_get {ts : List Al} {i : Nat} {t : Al} (h : ts[i]? = some t) : (Al.cellss ts)[i]? = some t.cells := by rw [Al.cellss_map]; simp [h]
theorem Bi.cellss_get {ts : List Bi} {i : Nat} {t : Bi} (h : ts[i]? = some t) : (Bi.cellss ts)[i]? = some t.cells := by rw [Bi.cellss_map]; simp [h]
def Al.e : Al → Ex | .mk _ e => e
def Al.q : Al → Pa | .mk q _ => q
def Bi.e : Bi → Ex | .mk _ e _ => e
def Bi.s : Bi → ByteArray | .mk s _ _ => s
section
variable {x : Ex} {a : Al} {b : Bi} {k n p : Int} {s : ByteArray} {t : Ty} {ks : List Ex} {al : List Al} {bs : List Bi}
end
def Ex.parts : Ex → List Ex
  | .mk k _ _ _ ks al bs _ => (if k = 7 then [] else ks) ++ bs.map Bi.e ++ (if k = 7 then ks else []) ++ al.map Al.e
theorem sum_take {l : List Nat} {i x : Nat} (h : l[i]? = some x) : (l.take (i + 1)).sum = (l.take i).sum + x := by
  rw [List.take_add_one, h]; simp
theorem sum_take_le (l : List Nat) (i : Nat) : (l.take i).sum ≤ l.sum := by
  have := congrArg List.sum (List.take_append_drop i l)
  rw [List.sum_append] at this; omega
end Go.Proofs.Ytadhakcmfkghbaa
