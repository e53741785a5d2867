/- Declarations as plain data (printed by wip/gend.py). -/
import Derived.Test.YtadhakcmfkghbaaPC
namespace Go.Proofs.Ytadhakcmfkghbaa
open Go.RowKit
def I64 (x : Int) : Prop := -9223372036854775808 ≤ x ∧ x ≤ 9223372036854775807
theorem I64.of {x : Int} (h : IntKind.i64.min ≤ x ∧ x ≤ IntKind.i64.max) : I64 x := by
  have h1 : IntKind.i64.min = -9223372036854775808 := by decide
  have h2 : IntKind.i64.max = 9223372036854775807 := by decide
  rw [h1, h2] at h; exact h
def Ty.Lim (t : Ty) : Prop := t.kn ≤ 140737488355328
inductive Pr where
  | mk (c : ByteArray) (t : Ty)
def Pr.cells : Pr → List AV
  | .mk c t => .val (.string c) :: t.cells
def Pr.c : Pr → ByteArray | .mk c _ => c
def Pr.t : Pr → Ty | .mk _ t => t
def Pr.cellss (l : List Pr) : List (List AV) := l.map Pr.cells
theorem Pr.cellss_map (l : List Pr) : Pr.cellss l = l.map Pr.cells := rfl
theorem Pr.cellss_len (l : List Pr) : (Pr.cellss l).length = l.length := by simp [Pr.cellss]
theorem Pr.cellss_get {l : List Pr} {i : Nat} {x : Pr} (h : l[i]? = some x) : (Pr.cellss l)[i]? = some x.cells := by simp [Pr.cellss, h]
theorem Pr.cells_len (x : Pr) : x.cells.length = 5 := by
  obtain ⟨xc, ⟨xtk, xts, xtn, xtl⟩⟩ := x
  rfl
def Pr.cellsss (l : List (List Pr)) : List (List AV) := l.map fun x => [.seq 5 (Pr.cellss x)]
theorem Pr.cellsss_len (l : List (List Pr)) : (Pr.cellsss l).length = l.length := by simp [Pr.cellsss]
theorem Pr.cellsss_get {l : List (List Pr)} {i : Nat} {x : List Pr} (h : l[i]? = some x) : (Pr.cellsss l)[i]? = some [.seq 5 (Pr.cellss x)] := by simp [Pr.cellsss, h]
def Pr.Lim : Pr → Prop
  | .mk _ t => (t.Lim)
inductive Cn where
  | mk (s : ByteArray) (ts : List Ty) (p : Int)
def Cn.cells : Cn → List AV
  | .mk s ts p => .val (.string s) :: .seq 4 (Ty.cellss ts) :: [.val (.int .i64 p)]
def Cn.s : Cn → ByteArray | .mk s _ _ => s
def Cn.ts : Cn → List Ty | .mk _ ts _ => ts
def Cn.p : Cn → Int | .mk _ _ p => p
def Cn.cellss (l : List Cn) : List (List AV) := l.map Cn.cells
theorem Cn.cellss_map (l : List Cn) : Cn.cellss l = l.map Cn.cells := rfl
theorem Cn.cellss_len (l : List Cn) : (Cn.cellss l).length = l.length := by simp [Cn.cellss]
theorem Cn.cellss_get {l : List Cn} {i : Nat} {x : Cn} (h : l[i]? = some x) : (Cn.cellss l)[i]? = some x.cells := by simp [Cn.cellss, h]
theorem Cn.cells_len (x : Cn) : x.cells.length = 3 := by
  obtain ⟨xs, xts, xp⟩ := x
  rfl
def Cn.cellsss (l : List (List Cn)) : List (List AV) := l.map fun x => [.seq 3 (Cn.cellss x)]
theorem Cn.cellsss_len (l : List (List Cn)) : (Cn.cellsss l).length = l.length := by simp [Cn.cellsss]
theorem Cn.cellsss_get {l : List (List Cn)} {i : Nat} {x : List Cn} (h : l[i]? = some x) : (Cn.cellsss l)[i]? = some [.seq 3 (Cn.cellss x)] := by simp [Cn.cellsss, h]
def Cn.Lim : Cn → Prop
  | .mk _ ts _ => (ts.length ≤ 140737488355328 ∧ ∀ x ∈ ts, x.Lim)
inductive Da where
  | mk (s : ByteArray) (ps : List ByteArray) (cs : List Cn) (dv : List ByteArray) (p : Int)
def Da.cells : Da → List AV
  | .mk s ps cs dv p => .val (.string s) :: .seq 1 (strs ps) :: .seq 3 (Cn.cellss cs) :: .seq 1 (strs dv) :: [.val (.int .i64 p)]
def Da.s : Da → ByteArray | .mk s _ _ _ _ => s
def Da.ps : Da → List ByteArray | .mk _ ps _ _ _ => ps
def Da.cs : Da → List Cn | .mk _ _ cs _ _ => cs
def Da.dv : Da → List ByteArray | .mk _ _ _ dv _ => dv
def Da.p : Da → Int | .mk _ _ _ _ p => p
def Da.cellss (l : List Da) : List (List AV) := l.map Da.cells
theorem Da.cellss_map (l : List Da) : Da.cellss l = l.map Da.cells := rfl
theorem Da.cellss_len (l : List Da) : (Da.cellss l).length = l.length := by simp [Da.cellss]
theorem Da.cellss_get {l : List Da} {i : Nat} {x : Da} (h : l[i]? = some x) : (Da.cellss l)[i]? = some x.cells := by simp [Da.cellss, h]
theorem Da.cells_len (x : Da) : x.cells.length = 5 := by
  obtain ⟨xs, xps, xcs, xdv, xp⟩ := x
  rfl
def Da.cellsss (l : List (List Da)) : List (List AV) := l.map fun x => [.seq 5 (Da.cellss x)]
theorem Da.cellsss_len (l : List (List Da)) : (Da.cellsss l).length = l.length := by simp [Da.cellsss]
theorem Da.cellsss_get {l : List (List Da)} {i : Nat} {x : List Da} (h : l[i]? = some x) : (Da.cellsss l)[i]? = some [.seq 5 (Da.cellss x)] := by simp [Da.cellsss, h]
def Da.Lim : Da → Prop
  | .mk _ ps cs dv _ => (ps.length ≤ 140737488355328) ∧ (cs.length ≤ 140737488355328 ∧ ∀ x ∈ cs, x.Lim) ∧ (dv.length ≤ 140737488355328)
inductive Me where
  | mk (s : ByteArray) (t : Ty) (p : Int)
def Me.cells : Me → List AV
  | .mk s t p => .val (.string s) :: t.cells ++ ([.val (.int .i64 p)])
def Me.s : Me → ByteArray | .mk s _ _ => s
def Me.t : Me → Ty | .mk _ t _ => t
def Me.p : Me → Int | .mk _ _ p => p
def Me.cellss (l : List Me) : List (List AV) := l.map Me.cells
theorem Me.cellss_map (l : List Me) : Me.cellss l = l.map Me.cells := rfl
theorem Me.cellss_len (l : List Me) : (Me.cellss l).length = l.length := by simp [Me.cellss]
theorem Me.cellss_get {l : List Me} {i : Nat} {x : Me} (h : l[i]? = some x) : (Me.cellss l)[i]? = some x.cells := by simp [Me.cellss, h]
theorem Me.cells_len (x : Me) : x.cells.length = 6 := by
  obtain ⟨xs, ⟨xtk, xts, xtn, xtl⟩, xp⟩ := x
  rfl
def Me.cellsss (l : List (List Me)) : List (List AV) := l.map fun x => [.seq 6 (Me.cellss x)]
theorem Me.cellsss_len (l : List (List Me)) : (Me.cellsss l).length = l.length := by simp [Me.cellsss]
theorem Me.cellsss_get {l : List (List Me)} {i : Nat} {x : List Me} (h : l[i]? = some x) : (Me.cellsss l)[i]? = some [.seq 6 (Me.cellss x)] := by simp [Me.cellsss, h]
def Me.Lim : Me → Prop
  | .mk _ t _ => (t.Lim)
inductive Cl where
  | mk (s : ByteArray) (v : ByteArray) (su : List ByteArray) (ms : List Me) (ds : List Bi) (p : Int)
def Cl.cells : Cl → List AV
  | .mk s v su ms ds p => .val (.string s) :: .val (.string v) :: .seq 1 (strs su) :: .seq 6 (Me.cellss ms) :: .seq 13 (Bi.cellss ds) :: [.val (.int .i64 p)]
def Cl.s : Cl → ByteArray | .mk s _ _ _ _ _ => s
def Cl.v : Cl → ByteArray | .mk _ v _ _ _ _ => v
def Cl.su : Cl → List ByteArray | .mk _ _ su _ _ _ => su
def Cl.ms : Cl → List Me | .mk _ _ _ ms _ _ => ms
def Cl.ds : Cl → List Bi | .mk _ _ _ _ ds _ => ds
def Cl.p : Cl → Int | .mk _ _ _ _ _ p => p
def Cl.cellss (l : List Cl) : List (List AV) := l.map Cl.cells
theorem Cl.cellss_map (l : List Cl) : Cl.cellss l = l.map Cl.cells := rfl
theorem Cl.cellss_len (l : List Cl) : (Cl.cellss l).length = l.length := by simp [Cl.cellss]
theorem Cl.cellss_get {l : List Cl} {i : Nat} {x : Cl} (h : l[i]? = some x) : (Cl.cellss l)[i]? = some x.cells := by simp [Cl.cellss, h]
theorem Cl.cells_len (x : Cl) : x.cells.length = 6 := by
  obtain ⟨xs, xv, xsu, xms, xds, xp⟩ := x
  rfl
def Cl.cellsss (l : List (List Cl)) : List (List AV) := l.map fun x => [.seq 6 (Cl.cellss x)]
theorem Cl.cellsss_len (l : List (List Cl)) : (Cl.cellsss l).length = l.length := by simp [Cl.cellsss]
theorem Cl.cellsss_get {l : List (List Cl)} {i : Nat} {x : List Cl} (h : l[i]? = some x) : (Cl.cellsss l)[i]? = some [.seq 6 (Cl.cellss x)] := by simp [Cl.cellsss, h]
def Cl.Lim : Cl → Prop
  | .mk _ _ su ms ds _ => (su.length ≤ 140737488355328) ∧ (ms.length ≤ 140737488355328 ∧ ∀ x ∈ ms, x.Lim) ∧ (ds.length ≤ 140737488355328 ∧ ∀ x ∈ ds, x.Lim)
inductive In where
  | mk (c : ByteArray) (hd : Ty) (cx : List Pr) (bs : List Bi) (p : Int)
def In.cells : In → List AV
  | .mk c hd cx bs p => .val (.string c) :: hd.cells ++ (.seq 5 (Pr.cellss cx) :: .seq 13 (Bi.cellss bs) :: [.val (.int .i64 p)])
def In.c : In → ByteArray | .mk c _ _ _ _ => c
def In.hd : In → Ty | .mk _ hd _ _ _ => hd
def In.cx : In → List Pr | .mk _ _ cx _ _ => cx
def In.bs : In → List Bi | .mk _ _ _ bs _ => bs
def In.p : In → Int | .mk _ _ _ _ p => p
def In.cellss (l : List In) : List (List AV) := l.map In.cells
theorem In.cellss_map (l : List In) : In.cellss l = l.map In.cells := rfl
theorem In.cellss_len (l : List In) : (In.cellss l).length = l.length := by simp [In.cellss]
theorem In.cellss_get {l : List In} {i : Nat} {x : In} (h : l[i]? = some x) : (In.cellss l)[i]? = some x.cells := by simp [In.cellss, h]
theorem In.cells_len (x : In) : x.cells.length = 8 := by
  obtain ⟨xc, ⟨xhdk, xhds, xhdn, xhdl⟩, xcx, xbs, xp⟩ := x
  rfl
def In.cellsss (l : List (List In)) : List (List AV) := l.map fun x => [.seq 8 (In.cellss x)]
theorem In.cellsss_len (l : List (List In)) : (In.cellsss l).length = l.length := by simp [In.cellsss]
theorem In.cellsss_get {l : List (List In)} {i : Nat} {x : List In} (h : l[i]? = some x) : (In.cellsss l)[i]? = some [.seq 8 (In.cellss x)] := by simp [In.cellsss, h]
def In.Lim : In → Prop
  | .mk _ hd cx bs _ => (hd.Lim) ∧ (cx.length ≤ 140737488355328 ∧ ∀ x ∈ cx, x.Lim) ∧ (bs.length ≤ 140737488355328 ∧ ∀ x ∈ bs, x.Lim)
inductive Pg where
  | mk (da : List Da) (cl : List Cl) (ins : List In) (bs : List Bi)
def Pg.cells : Pg → List AV
  | .mk da cl ins bs => .seq 5 (Da.cellss da) :: .seq 6 (Cl.cellss cl) :: .seq 8 (In.cellss ins) :: [.seq 13 (Bi.cellss bs)]
def Pg.da : Pg → List Da | .mk da _ _ _ => da
def Pg.cl : Pg → List Cl | .mk _ cl _ _ => cl
def Pg.ins : Pg → List In | .mk _ _ ins _ => ins
def Pg.bs : Pg → List Bi | .mk _ _ _ bs => bs
def Pg.cellss (l : List Pg) : List (List AV) := l.map Pg.cells
theorem Pg.cellss_map (l : List Pg) : Pg.cellss l = l.map Pg.cells := rfl
theorem Pg.cellss_len (l : List Pg) : (Pg.cellss l).length = l.length := by simp [Pg.cellss]
theorem Pg.cellss_get {l : List Pg} {i : Nat} {x : Pg} (h : l[i]? = some x) : (Pg.cellss l)[i]? = some x.cells := by simp [Pg.cellss, h]
theorem Pg.cells_len (x : Pg) : x.cells.length = 4 := by
  obtain ⟨xda, xcl, xins, xbs⟩ := x
  rfl
def Pg.cellsss (l : List (List Pg)) : List (List AV) := l.map fun x => [.seq 4 (Pg.cellss x)]
theorem Pg.cellsss_len (l : List (List Pg)) : (Pg.cellsss l).length = l.length := by simp [Pg.cellsss]
theorem Pg.cellsss_get {l : List (List Pg)} {i : Nat} {x : List Pg} (h : l[i]? = some x) : (Pg.cellsss l)[i]? = some [.seq 4 (Pg.cellss x)] := by simp [Pg.cellsss, h]
def Pg.Lim : Pg → Prop
  | .mk da cl ins bs => (da.length ≤ 140737488355328 ∧ ∀ x ∈ da, x.Lim) ∧ (cl.length ≤ 140737488355328 ∧ ∀ x ∈ cl, x.Lim) ∧ (ins.length ≤ 140737488355328 ∧ ∀ x ∈ ins, x.Lim) ∧ (bs.length ≤ 140737488355328 ∧ ∀ x ∈ bs, x.Lim)
inductive En where
  | mk (da : List Da) (cl : List Cl) (ins : List In)
def En.cells : En → List AV
  | .mk da cl ins => .seq 5 (Da.cellss da) :: .seq 6 (Cl.cellss cl) :: [.seq 8 (In.cellss ins)]
def En.da : En → List Da | .mk da _ _ => da
def En.cl : En → List Cl | .mk _ cl _ => cl
def En.ins : En → List In | .mk _ _ ins => ins
def En.cellss (l : List En) : List (List AV) := l.map En.cells
theorem En.cellss_map (l : List En) : En.cellss l = l.map En.cells := rfl
theorem En.cellss_len (l : List En) : (En.cellss l).length = l.length := by simp [En.cellss]
theorem En.cellss_get {l : List En} {i : Nat} {x : En} (h : l[i]? = some x) : (En.cellss l)[i]? = some x.cells := by simp [En.cellss, h]
theorem En.cells_len (x : En) : x.cells.length = 3 := by
  obtain ⟨xda, xcl, xins⟩ := x
  rfl
def En.cellsss (l : List (List En)) : List (List AV) := l.map fun x => [.seq 3 (En.cellss x)]
theorem En.cellsss_len (l : List (List En)) : (En.cellsss l).length = l.length := by simp [En.cellsss]
theorem En.cellsss_get {l : List (List En)} {i : Nat} {x : List En} (h : l[i]? = some x) : (En.cellsss l)[i]? = some [.seq 3 (En.cellss x)] := by simp [En.cellsss, h]
def En.Lim : En → Prop
  | .mk da cl ins => (da.length ≤ 140737488355328 ∧ ∀ x ∈ da, x.Lim) ∧ (cl.length ≤ 140737488355328 ∧ ∀ x ∈ cl, x.Lim) ∧ (ins.length ≤ 140737488355328 ∧ ∀ x ∈ ins, x.Lim)
end Go.Proofs.Ytadhakcmfkghbaa
