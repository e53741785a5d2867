/- Codes and primitives as plain data (printed by wip/gend29.py). -/
import Derived.Test.YtadhakcmfkghbaaPG
namespace Go.Proofs.Ytadhakcmfkghbaa
open Go.RowKit
inductive Sc where
  | mk (vs : List ByteArray) (ps : List Pr) (t : Ty)
def Sc.cells : Sc → List AV
  | .mk vs ps t => .seq 1 (strs vs) :: .seq 5 (Pr.cellss ps) :: t.cells
def Sc.vs : Sc → List ByteArray | .mk vs _ _ => vs
def Sc.ps : Sc → List Pr | .mk _ ps _ => ps
def Sc.t : Sc → Ty | .mk _ _ t => t
def Sc.cellss (l : List Sc) : List (List AV) := l.map Sc.cells
theorem Sc.cellss_map (l : List Sc) : Sc.cellss l = l.map Sc.cells := rfl
theorem Sc.cellss_len (l : List Sc) : (Sc.cellss l).length = l.length := by simp [Sc.cellss]
theorem Sc.cellss_get {l : List Sc} {i : Nat} {x : Sc} (h : l[i]? = some x) : (Sc.cellss l)[i]? = some x.cells := by simp [Sc.cellss, h]
theorem Sc.cells_len (x : Sc) : x.cells.length = 6 := by
  obtain ⟨xvs, xps, ⟨xtk, xts, xtn, xtl⟩⟩ := x
  rfl
def Sc.cellsss (l : List (List Sc)) : List (List AV) := l.map fun x => [.seq 6 (Sc.cellss x)]
theorem Sc.cellsss_len (l : List (List Sc)) : (Sc.cellsss l).length = l.length := by simp [Sc.cellsss]
theorem Sc.cellsss_get {l : List (List Sc)} {i : Nat} {x : List Sc} (h : l[i]? = some x) : (Sc.cellsss l)[i]? = some [.seq 6 (Sc.cellss x)] := by simp [Sc.cellsss, h]
def Sc.Lim : Sc → Prop
  | .mk vs ps t => (vs.length ≤ 140737488355328) ∧ (ps.length ≤ 140737488355328 ∧ ∀ x ∈ ps, x.Lim) ∧ (t.Lim)
inductive Pm where
  | mk (s : ByteArray) (op : Int) (n : Int) (sc : Sc)
def Pm.cells : Pm → List AV
  | .mk s op n sc => .val (.string s) :: .val (.int .i64 op) :: .val (.int .i64 n) :: sc.cells
def Pm.s : Pm → ByteArray | .mk s _ _ _ => s
def Pm.op : Pm → Int | .mk _ op _ _ => op
def Pm.n : Pm → Int | .mk _ _ n _ => n
def Pm.sc : Pm → Sc | .mk _ _ _ sc => sc
def Pm.cellss (l : List Pm) : List (List AV) := l.map Pm.cells
theorem Pm.cellss_map (l : List Pm) : Pm.cellss l = l.map Pm.cells := rfl
theorem Pm.cellss_len (l : List Pm) : (Pm.cellss l).length = l.length := by simp [Pm.cellss]
theorem Pm.cellss_get {l : List Pm} {i : Nat} {x : Pm} (h : l[i]? = some x) : (Pm.cellss l)[i]? = some x.cells := by simp [Pm.cellss, h]
theorem Pm.cells_len (x : Pm) : x.cells.length = 9 := by
  obtain ⟨xs, xop, xn, ⟨xscvs, xscps, ⟨xsctk, xscts, xsctn, xsctl⟩⟩⟩ := x
  rfl
def Pm.cellsss (l : List (List Pm)) : List (List AV) := l.map fun x => [.seq 9 (Pm.cellss x)]
theorem Pm.cellsss_len (l : List (List Pm)) : (Pm.cellsss l).length = l.length := by simp [Pm.cellsss]
theorem Pm.cellsss_get {l : List (List Pm)} {i : Nat} {x : List Pm} (h : l[i]? = some x) : (Pm.cellsss l)[i]? = some [.seq 9 (Pm.cellss x)] := by simp [Pm.cellsss, h]
def Pm.Lim : Pm → Prop
  | .mk _ _ _ sc => (sc.Lim)
inductive Ato where
  | mk (k : Int) (n : Int)
def Ato.cells : Ato → List AV
  | .mk k n => .val (.int .i64 k) :: [.val (.int .i64 n)]
def Ato.k : Ato → Int | .mk k _ => k
def Ato.n : Ato → Int | .mk _ n => n
def Ato.cellss (l : List Ato) : List (List AV) := l.map Ato.cells
theorem Ato.cellss_map (l : List Ato) : Ato.cellss l = l.map Ato.cells := rfl
theorem Ato.cellss_len (l : List Ato) : (Ato.cellss l).length = l.length := by simp [Ato.cellss]
theorem Ato.cellss_get {l : List Ato} {i : Nat} {x : Ato} (h : l[i]? = some x) : (Ato.cellss l)[i]? = some x.cells := by simp [Ato.cellss, h]
theorem Ato.cells_len (x : Ato) : x.cells.length = 2 := by
  obtain ⟨xk, xn⟩ := x
  rfl
def Ato.cellsss (l : List (List Ato)) : List (List AV) := l.map fun x => [.seq 2 (Ato.cellss x)]
theorem Ato.cellsss_len (l : List (List Ato)) : (Ato.cellsss l).length = l.length := by simp [Ato.cellsss]
theorem Ato.cellsss_get {l : List (List Ato)} {i : Nat} {x : List Ato} (h : l[i]? = some x) : (Ato.cellsss l)[i]? = some [.seq 2 (Ato.cellss x)] := by simp [Ato.cellsss, h]
def Ato.Lim : Ato → Prop
  | .mk k n => (I64 k) ∧ (I64 n)
inductive Is where
  | mk (op : Int) (a : Int) (b : Int) (n : Int) (ar : List Ato) (fs : List Int) (cp : List (List Ato))
def Is.cells : Is → List AV
  | .mk op a b n ar fs cp => .val (.int .i64 op) :: .val (.int .i64 a) :: .val (.int .i64 b) :: .val (.int .i64 n) :: .seq 2 (Ato.cellss ar) :: .seq 1 (nums fs) :: [.seq 1 (Ato.cellsss cp)]
def Is.op : Is → Int | .mk op _ _ _ _ _ _ => op
def Is.a : Is → Int | .mk _ a _ _ _ _ _ => a
def Is.b : Is → Int | .mk _ _ b _ _ _ _ => b
def Is.n : Is → Int | .mk _ _ _ n _ _ _ => n
def Is.ar : Is → List Ato | .mk _ _ _ _ ar _ _ => ar
def Is.fs : Is → List Int | .mk _ _ _ _ _ fs _ => fs
def Is.cp : Is → List (List Ato) | .mk _ _ _ _ _ _ cp => cp
def Is.cellss (l : List Is) : List (List AV) := l.map Is.cells
theorem Is.cellss_map (l : List Is) : Is.cellss l = l.map Is.cells := rfl
theorem Is.cellss_len (l : List Is) : (Is.cellss l).length = l.length := by simp [Is.cellss]
theorem Is.cellss_get {l : List Is} {i : Nat} {x : Is} (h : l[i]? = some x) : (Is.cellss l)[i]? = some x.cells := by simp [Is.cellss, h]
theorem Is.cells_len (x : Is) : x.cells.length = 7 := by
  obtain ⟨xop, xa, xb, xn, xar, xfs, xcp⟩ := x
  rfl
def Is.cellsss (l : List (List Is)) : List (List AV) := l.map fun x => [.seq 7 (Is.cellss x)]
theorem Is.cellsss_len (l : List (List Is)) : (Is.cellsss l).length = l.length := by simp [Is.cellsss]
theorem Is.cellsss_get {l : List (List Is)} {i : Nat} {x : List Is} (h : l[i]? = some x) : (Is.cellsss l)[i]? = some [.seq 7 (Is.cellss x)] := by simp [Is.cellsss, h]
def Is.Lim : Is → Prop
  | .mk op a b n ar fs cp => (I64 op) ∧ (I64 a) ∧ (I64 b) ∧ (I64 n) ∧ (ar.length ≤ 140737488355328 ∧ ∀ x ∈ ar, x.Lim) ∧ (fs.length ≤ 140737488355328 ∧ ∀ x ∈ fs, I64 x) ∧ (cp.length ≤ 140737488355328 ∧ ∀ x ∈ cp, x.length ≤ 140737488355328 ∧ ∀ y ∈ x, y.Lim)
inductive Cf where
  | mk (len : Int) (sl : Int) (cp : Int)
def Cf.cells : Cf → List AV
  | .mk len sl cp => .val (.int .i64 len) :: .val (.int .i64 sl) :: [.val (.int .i64 cp)]
def Cf.len : Cf → Int | .mk len _ _ => len
def Cf.sl : Cf → Int | .mk _ sl _ => sl
def Cf.cp : Cf → Int | .mk _ _ cp => cp
def Cf.cellss (l : List Cf) : List (List AV) := l.map Cf.cells
theorem Cf.cellss_map (l : List Cf) : Cf.cellss l = l.map Cf.cells := rfl
theorem Cf.cellss_len (l : List Cf) : (Cf.cellss l).length = l.length := by simp [Cf.cellss]
theorem Cf.cellss_get {l : List Cf} {i : Nat} {x : Cf} (h : l[i]? = some x) : (Cf.cellss l)[i]? = some x.cells := by simp [Cf.cellss, h]
theorem Cf.cells_len (x : Cf) : x.cells.length = 3 := by
  obtain ⟨xlen, xsl, xcp⟩ := x
  rfl
def Cf.cellsss (l : List (List Cf)) : List (List AV) := l.map fun x => [.seq 3 (Cf.cellss x)]
theorem Cf.cellsss_len (l : List (List Cf)) : (Cf.cellsss l).length = l.length := by simp [Cf.cellsss]
theorem Cf.cellsss_get {l : List (List Cf)} {i : Nat} {x : List Cf} (h : l[i]? = some x) : (Cf.cellsss l)[i]? = some [.seq 3 (Cf.cellss x)] := by simp [Cf.cellsss, h]
def Cf.Lim : Cf → Prop
  | .mk len sl cp => (I64 len) ∧ (I64 sl) ∧ (I64 cp)
inductive Cd where
  | mk (is : List Is) (fu : List Cf) (tx : List ByteArray) (gl : Int) (ys : Int) (no : Int)
def Cd.cells : Cd → List AV
  | .mk is fu tx gl ys no => .seq 7 (Is.cellss is) :: .seq 3 (Cf.cellss fu) :: .seq 1 (strs tx) :: .val (.int .i64 gl) :: .val (.int .i64 ys) :: [.val (.int .i64 no)]
def Cd.is : Cd → List Is | .mk is _ _ _ _ _ => is
def Cd.fu : Cd → List Cf | .mk _ fu _ _ _ _ => fu
def Cd.tx : Cd → List ByteArray | .mk _ _ tx _ _ _ => tx
def Cd.gl : Cd → Int | .mk _ _ _ gl _ _ => gl
def Cd.ys : Cd → Int | .mk _ _ _ _ ys _ => ys
def Cd.no : Cd → Int | .mk _ _ _ _ _ no => no
def Cd.cellss (l : List Cd) : List (List AV) := l.map Cd.cells
theorem Cd.cellss_map (l : List Cd) : Cd.cellss l = l.map Cd.cells := rfl
theorem Cd.cellss_len (l : List Cd) : (Cd.cellss l).length = l.length := by simp [Cd.cellss]
theorem Cd.cellss_get {l : List Cd} {i : Nat} {x : Cd} (h : l[i]? = some x) : (Cd.cellss l)[i]? = some x.cells := by simp [Cd.cellss, h]
theorem Cd.cells_len (x : Cd) : x.cells.length = 6 := by
  obtain ⟨xis, xfu, xtx, xgl, xys, xno⟩ := x
  rfl
def Cd.cellsss (l : List (List Cd)) : List (List AV) := l.map fun x => [.seq 6 (Cd.cellss x)]
theorem Cd.cellsss_len (l : List (List Cd)) : (Cd.cellsss l).length = l.length := by simp [Cd.cellsss]
theorem Cd.cellsss_get {l : List (List Cd)} {i : Nat} {x : List Cd} (h : l[i]? = some x) : (Cd.cellsss l)[i]? = some [.seq 6 (Cd.cellss x)] := by simp [Cd.cellsss, h]
def Cd.Lim : Cd → Prop
  | .mk is fu tx gl ys no => (is.length ≤ 140737488355328 ∧ ∀ x ∈ is, x.Lim) ∧ (fu.length ≤ 140737488355328 ∧ ∀ x ∈ fu, x.Lim) ∧ (tx.length ≤ 140737488355328) ∧ (I64 gl) ∧ (I64 ys) ∧ (I64 no)
end Go.Proofs.Ytadhakcmfkghbaa
