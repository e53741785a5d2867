/- Patterns and expressions as plain data: their cells, their parts, their sameness but for places. -/
import Derived.Test.YtjgjnheeohfmmaaPU
namespace Go.Proofs.Ytjgjnheeohfmmaa
open Go.RowKit
inductive Pa where
  | mk (k : Int) (s : ByteArray) (n : Int) (ks : List Pa) (p : Int)
mutual
inductive Ex where
  | mk (k : Int) (s : ByteArray) (n : Int) (t : Ty) (ks : List Ex) (al : List Al) (bs : List Bi) (p : Int)
inductive Al where
  | mk (q : Pa) (e : Ex)
inductive Bi where
  | mk (s : ByteArray) (e : Ex) (p : Int)
end
mutual
def Pa.cells : Pa → List AV
  | .mk k s n ks p => [.val (.int .i64 k), .val (.string s), .val (.int .i64 n), .seq 5 (Pa.cellss ks), .val (.int .i64 p)]
def Pa.cellss : List Pa → List (List AV)
  | [] => []
  | t :: ts => t.cells :: Pa.cellss ts
end
mutual
def Ex.cells : Ex → List AV
  | .mk k s n t ks al bs p => .val (.int .i64 k) :: .val (.string s) :: .val (.int .i64 n) :: (t.cells ++ [.seq 11 (Ex.cellss ks), .seq 16 (Al.cellss al), .seq 13 (Bi.cellss bs), .val (.int .i64 p)])
def Ex.cellss : List Ex → List (List AV)
  | [] => []
  | t :: ts => t.cells :: Ex.cellss ts
def Al.cells : Al → List AV
  | .mk q e => q.cells ++ e.cells
def Al.cellss : List Al → List (List AV)
  | [] => []
  | t :: ts => t.cells :: Al.cellss ts
def Bi.cells : Bi → List AV
  | .mk s e p => .val (.string s) :: (e.cells ++ [.val (.int .i64 p)])
def Bi.cellss : List Bi → List (List AV)
  | [] => []
  | t :: ts => t.cells :: Bi.cellss ts
end
theorem Pa.cellss_map : ∀ ts : List Pa, Pa.cellss ts = ts.map Pa.cells
  | [] => by simp [Pa.cellss]
  | t :: ts => by simp [Pa.cellss, Pa.cellss_map ts]
theorem Ex.cellss_map : ∀ ts : List Ex, Ex.cellss ts = ts.map Ex.cells
  | [] => by simp [Ex.cellss]
  | t :: ts => by simp [Ex.cellss, Ex.cellss_map ts]
theorem Al.cellss_map : ∀ ts : List Al, Al.cellss ts = ts.map Al.cells
  | [] => by simp [Al.cellss]
  | t :: ts => by simp [Al.cellss, Al.cellss_map ts]
theorem Bi.cellss_map : ∀ ts : List Bi, Bi.cellss ts = ts.map Bi.cells
  | [] => by simp [Bi.cellss]
  | t :: ts => by simp [Bi.cellss, Bi.cellss_map ts]
theorem Pa.cellss_len (ts : List Pa) : (Pa.cellss ts).length = ts.length := by rw [Pa.cellss_map]; simp
theorem Ex.cellss_len (ts : List Ex) : (Ex.cellss ts).length = ts.length := by rw [Ex.cellss_map]; simp
theorem Al.cellss_len (ts : List Al) : (Al.cellss ts).length = ts.length := by rw [Al.cellss_map]; simp
theorem Bi.cellss_len (ts : List Bi) : (Bi.cellss ts).length = ts.length := by rw [Bi.cellss_map]; simp
theorem Pa.cellss_get {ts : List Pa} {i : Nat} {t : Pa} (h : ts[i]? = some t) : (Pa.cellss ts)[i]? = some t.cells := by rw [Pa.cellss_map]; simp [h]
theorem Ex.cellss_get {ts : List Ex} {i : Nat} {t : Ex} (h : ts[i]? = some t) : (Ex.cellss ts)[i]? = some t.cells := by rw [Ex.cellss_map]; simp [h]
theorem Al.cellss_get {ts : List Al} {i : Nat} {t : Al} (h : ts[i]? = some t) : (Al.cellss ts)[i]? = some t.cells := by rw [Al.cellss_map]; simp [h]
theorem Bi.cellss_get {ts : List Bi} {i : Nat} {t : Bi} (h : ts[i]? = some t) : (Bi.cellss ts)[i]? = some t.cells := by rw [Bi.cellss_map]; simp [h]
def Al.e : Al → Ex | .mk _ e => e
def Al.q : Al → Pa | .mk q _ => q
def Bi.e : Bi → Ex | .mk _ e _ => e
def Bi.s : Bi → ByteArray | .mk s _ _ => s
mutual
/-- all places struck out -/
def Pa.bare : Pa → Pa
  | .mk k s n ks _ => .mk k s n (Pa.bares ks) 0
def Pa.bares : List Pa → List Pa
  | [] => []
  | t :: ts => t.bare :: Pa.bares ts
end
mutual
def Ex.bare : Ex → Ex
  | .mk k s n t ks al bs _ => .mk k s n t (Ex.bares ks) (Al.bares al) (Bi.bares bs) 0
def Ex.bares : List Ex → List Ex
  | [] => []
  | t :: ts => t.bare :: Ex.bares ts
def Al.bare : Al → Al
  | .mk q e => .mk q.bare e.bare
def Al.bares : List Al → List Al
  | [] => []
  | t :: ts => t.bare :: Al.bares ts
def Bi.bare : Bi → Bi
  | .mk s e _ => .mk s e.bare 0
def Bi.bares : List Bi → List Bi
  | [] => []
  | t :: ts => t.bare :: Bi.bares ts
end
theorem Pa.bares_map : ∀ ts : List Pa, Pa.bares ts = ts.map Pa.bare
  | [] => by simp [Pa.bares]
  | t :: ts => by simp [Pa.bares, Pa.bares_map ts]
theorem Ex.bares_map : ∀ ts : List Ex, Ex.bares ts = ts.map Ex.bare
  | [] => by simp [Ex.bares]
  | t :: ts => by simp [Ex.bares, Ex.bares_map ts]
theorem Al.bares_map : ∀ ts : List Al, Al.bares ts = ts.map Al.bare
  | [] => by simp [Al.bares]
  | t :: ts => by simp [Al.bares, Al.bares_map ts]
theorem Bi.bares_map : ∀ ts : List Bi, Bi.bares ts = ts.map Bi.bare
  | [] => by simp [Bi.bares]
  | t :: ts => by simp [Bi.bares, Bi.bares_map ts]
theorem Pa.bare_iff {k1 k2 n1 n2 p1 p2 : Int} {s1 s2 : ByteArray} {ks1 ks2 : List Pa} : (Pa.mk k1 s1 n1 ks1 p1).bare = (Pa.mk k2 s2 n2 ks2 p2).bare ↔ k1 = k2 ∧ s1 = s2 ∧ n1 = n2 ∧ ks1.map Pa.bare = ks2.map Pa.bare := by
  simp [Pa.bare, Pa.bares_map]
theorem Ex.bare_iff {k1 k2 n1 n2 p1 p2 : Int} {s1 s2 : ByteArray} {t1 t2 : Ty} {ks1 ks2 : List Ex} {al1 al2 : List Al} {bs1 bs2 : List Bi} : (Ex.mk k1 s1 n1 t1 ks1 al1 bs1 p1).bare = (Ex.mk k2 s2 n2 t2 ks2 al2 bs2 p2).bare ↔ k1 = k2 ∧ s1 = s2 ∧ n1 = n2 ∧ t1 = t2 ∧ ks1.map Ex.bare = ks2.map Ex.bare ∧ al1.map Al.bare = al2.map Al.bare ∧ bs1.map Bi.bare = bs2.map Bi.bare := by
  simp [Ex.bare, Ex.bares_map, Al.bares_map, Bi.bares_map]
theorem Al.bare_iff {q1 q2 : Pa} {e1 e2 : Ex} : (Al.mk q1 e1).bare = (Al.mk q2 e2).bare ↔ q1.bare = q2.bare ∧ e1.bare = e2.bare := by simp [Al.bare]
theorem Bi.bare_iff {s1 s2 : ByteArray} {e1 e2 : Ex} {p1 p2 : Int} : (Bi.mk s1 e1 p1).bare = (Bi.mk s2 e2 p2).bare ↔ s1 = s2 ∧ e1.bare = e2.bare := by simp [Bi.bare]
/-- smaller: for inductions -/
theorem Pa.lt_kid {x : Pa} {k n p : Int} {s : ByteArray} {ks : List Pa} (h : x ∈ ks) : SizeOf.sizeOf x < SizeOf.sizeOf (Pa.mk k s n ks p) := by
  have := List.sizeOf_lt_of_mem h
  simp; omega
section
variable {x : Ex} {a : Al} {b : Bi} {k n p : Int} {s : ByteArray} {t : Ty} {ks : List Ex} {al : List Al} {bs : List Bi}
theorem Ex.lt_kid (h : x ∈ ks) : SizeOf.sizeOf x < SizeOf.sizeOf (Ex.mk k s n t ks al bs p) := by
  have := List.sizeOf_lt_of_mem h
  simp; omega
theorem Ex.lt_alt (h : a ∈ al) : SizeOf.sizeOf a < SizeOf.sizeOf (Ex.mk k s n t ks al bs p) := by
  have := List.sizeOf_lt_of_mem h
  simp; omega
theorem Ex.lt_bind (h : b ∈ bs) : SizeOf.sizeOf b < SizeOf.sizeOf (Ex.mk k s n t ks al bs p) := by
  have := List.sizeOf_lt_of_mem h
  simp; omega
theorem Al.lt_e (a : Al) : SizeOf.sizeOf a.e < SizeOf.sizeOf a := by cases a; simp [Al.e]; omega
theorem Bi.lt_e (a : Bi) : SizeOf.sizeOf a.e < SizeOf.sizeOf a := by cases a; simp [Bi.e]; omega
end
/-- what an expression has -/
def Ex.parts : Ex → List Ex
  | .mk k _ _ _ ks al bs _ => (if k = 7 then [] else ks) ++ bs.map Bi.e ++ (if k = 7 then ks else []) ++ al.map Al.e
theorem Ex.lt_part {e x : Ex} (h : x ∈ e.parts) : SizeOf.sizeOf x < SizeOf.sizeOf e := by
  obtain ⟨k, s, n, t, ks, al, bs, p⟩ := e
  simp only [Ex.parts, List.mem_append, List.mem_map] at h
  rcases h with ((h | ⟨b, hb, rfl⟩) | h) | ⟨a, ha, rfl⟩
  · split at h
    · simp at h
    · exact Ex.lt_kid h
  · exact Nat.lt_trans (Bi.lt_e b) (Ex.lt_bind hb)
  · split at h
    · exact Ex.lt_kid h
    · simp at h
  · exact Nat.lt_trans (Al.lt_e a) (Ex.lt_alt ha)
theorem Ex.kid_part {k n p : Int} {s : ByteArray} {t : Ty} {ks : List Ex} {al : List Al} {bs : List Bi} {x : Ex} (h : x ∈ ks) : x ∈ (Ex.mk k s n t ks al bs p).parts := by
  simp only [Ex.parts, List.mem_append]
  by_cases e : k = 7
  · simp [e, h]
  · simp [e, h]
/-- size and depth -/
def Ex.sz (e : Ex) : Nat := 1 + (e.parts.attach.map fun x => Ex.sz x.1).sum
termination_by SizeOf.sizeOf e
decreasing_by exact Ex.lt_part x.2
theorem Ex.sz_eq (e : Ex) : e.sz = 1 + (e.parts.map Ex.sz).sum := by
  rw [Ex.sz, List.attach_map_val (l := e.parts) (f := Ex.sz)]
def maxOf : List Nat → Nat
  | [] => 0
  | x :: xs => max x (maxOf xs)
def Ex.dp (e : Ex) : Nat := 1 + maxOf (e.parts.attach.map fun x => Ex.dp x.1)
termination_by SizeOf.sizeOf e
decreasing_by exact Ex.lt_part x.2
theorem Ex.dp_eq (e : Ex) : e.dp = 1 + maxOf (e.parts.map Ex.dp) := by
  rw [Ex.dp, List.attach_map_val (l := e.parts) (f := Ex.dp)]
theorem sum_mem {l : List Nat} {x : Nat} (h : x ∈ l) : x ≤ l.sum := by
  induction l with
  | nil => simp at h
  | cons y l ih =>
    simp only [List.sum_cons]
    rcases List.mem_cons.1 h with rfl | h
    · omega
    · have := ih h; omega
theorem Ex.sz_part {e x : Ex} (h : x ∈ e.parts) : x.sz < e.sz := by
  have := sum_mem (List.mem_map.2 ⟨x, h, rfl⟩ : x.sz ∈ e.parts.map Ex.sz)
  rw [Ex.sz_eq e]; omega
theorem maxOf_le {l : List Nat} {m : Nat} (h : ∀ x ∈ l, x ≤ m) : maxOf l ≤ m := by
  induction l with
  | nil => simp [maxOf]
  | cons y l ih =>
    have h1 := h y (by simp)
    have h2 := ih (fun x hx => h x (by simp [hx]))
    simp only [maxOf]; omega
theorem Ex.dp_le (e : Ex) : e.dp ≤ e.sz := by
  rw [Ex.dp_eq, Ex.sz_eq]
  have : maxOf (e.parts.map Ex.dp) ≤ (e.parts.map Ex.sz).sum := by
    refine maxOf_le fun x hx => ?_
    obtain ⟨y, hy, rfl⟩ := List.mem_map.1 hx
    exact Nat.le_trans (Ex.dp_le y) (sum_mem (List.mem_map.2 ⟨y, hy, rfl⟩))
  omega
termination_by SizeOf.sizeOf e
decreasing_by exact Ex.lt_part hy
theorem sum_take {l : List Nat} {i x : Nat} (h : l[i]? = some x) : (l.take (i + 1)).sum = (l.take i).sum + x := by
  rw [List.take_add_one, h]; simp
theorem sum_take_le (l : List Nat) (i : Nat) : (l.take i).sum ≤ l.sum := by
  have := congrArg List.sum (List.take_append_drop i l)
  rw [List.sum_append] at this; omega
theorem maxOf_take {l : List Nat} {i x : Nat} (h : l[i]? = some x) : maxOf (l.take (i + 1)) = max (maxOf (l.take i)) x := by
  rw [List.take_add_one, h]
  have key : ∀ l : List Nat, maxOf (l ++ [x]) = max (maxOf l) x := by
    intro l
    induction l with
    | nil => simp [maxOf]
    | cons y l ih => simp only [List.cons_append, maxOf, ih]; omega
  exact key _
/-- lists alike under a map, up to a place -/
theorem upto_map {α β : Type} (f : α → β) {xs ys : List α} {i : Nat} {x y : α} (h : Upto (xs.map f) (ys.map f) i) (hx : xs[i]? = some x) (hy : ys[i]? = some y) (e : f x = f y) : Upto (xs.map f) (ys.map f) (i + 1) :=
  h.succ (x := f x) (y := f y) (by simp [hx]) (by simp [hy]) e
theorem map_ne {α β : Type} (f : α → β) {xs ys : List α} {i : Nat} {x y : α} (hx : xs[i]? = some x) (hy : ys[i]? = some y) (e : ¬ f x = f y) : ¬ xs.map f = ys.map f := fun q => e (by
  have : (xs.map f)[i]? = (ys.map f)[i]? := by rw [q]
  simpa [hx, hy] using this)
theorem map_len_ne {α β : Type} (f : α → β) {xs ys : List α} (h : ¬ xs.length = ys.length) : ¬ xs.map f = ys.map f := fun q => h (by simpa using congrArg List.length q)
end Go.Proofs.Ytjgjnheeohfmmaa
