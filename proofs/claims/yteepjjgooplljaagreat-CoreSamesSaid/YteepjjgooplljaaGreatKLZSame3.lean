/- Parts of a proof: short words; Arguments as trees: what a reading of an argument says, in the words of the logic; and how a law's call ends.; More rules: a rune as a text; a part of a text; contracts of the model's own kind; bools that are known.; Types as plain data: a kind, a name, a number, and kids; their size, their sameness, and the count that the statements bound them by.; Types as plain data, on: what a type takes and answers, its parts in order, its variables and metas.; Types as plain data, on: types with others in places that are told.; Facts of the seat's types, one by one, by evaluation.; Arguments of the layers' types, opened: types, texts, substitutions.; The frame of a law's row: if the call returns true and nothing below the heap's old size has turned, the row's post holds, whatever the arguments' types.; Arguments as trees, with bounds: no slice and no text is longer than L, and the whole is no greater than the bulk of the reading.; Patterns and expressions as plain data: their cells, their parts, their sameness but for places.; Core expressions as plain data: their cells, their parts, their sameness but for the places of patterns.; Names of patterns, free names of expressions, as plain functions.; How much an expression has, as cognatelaw05.Count counts it.; How much a core expression has, as cognatelaw21's count counts it.; The arguments of the statements of layer 21.; cognateref05.Texts, SameType, SameTypes; cognatelaw08.ints; slices.EqualFunc and tree.same, for lists of types, patterns, expressions, alternatives, binds: alike under a map.; sameness of types, patterns, expressions: tree.SameType, SamePat, Same, sameBind, and the document's; core: EqualFunc of core expressions, alternatives, binds; Declarations as plain data (printed by wip/gend.py).; slices.EqualFunc and tree.same, for lists of declarations: alike under a map (printed by wip/gend.py).; Equality of declarations: tree.SameProg and what it calls, cognateref05.SameProg and what it calls.; core.Same; the document's sameness of core expressions; sizes of core expressions; all within one; cognatelaw08.count, Small -/
import Derived.Test.YteepjjgooplljaaGreatKLZSame2
import Derived.ProofKit
import Derived.ChangeArms
import Derived.Test.YteepjjgooplljaaGreatProg
import Derived.SizedLaws
import Derived.OpenShut
import Derived.Test.YteepjjgooplljaaGreatRows
set_option maxRecDepth 100000
set_option maxHeartbeats 4000000
namespace Go.Proofs.YteepjjgooplljaaGreat
open Go.RowKit
theorem V {α : Sort _} {a : α} : a = a := rfl
abbrev Xp := @List.mem_of_getElem?
abbrev Xo := @IntWalk.i64_in
abbrev Xn := @Drops.nil
abbrev Xm := @Drops.skip
abbrev Xl := @Drops.keep
abbrev Xk := @Nat.le_of_ble_eq_true
abbrev Xj := @BoolQ.mk
abbrev Xi := @Le.refl
abbrev Xh := @MLe.none
abbrev Xg := @AOps.nil
theorem by0 {p : Prop} (h : p := by repeat' (first | exact Le.refl _ | exact Le.own _ _ _ | exact Le.nil _ | refine Le.agg ?_ | refine Le.tup ?_ | exact Les.refl _ | refine Les.cons ?_ ?_ | refine Le.seq ?_ | exact Less.refl _ | exact Less.nil | refine Less.cons ?_ rfl ?_)) : p := h
theorem by1 {p : Prop} (h : p := by first | exact Les.refl _ | (repeat' (first | exact Les.refl _ | refine Les.cons ?_ ?_ | exact Le.refl _ | exact Le.own _ _ _ | exact Le.nil _ | refine Le.agg ?_))) : p := h
theorem by2 {p : Prop} (h : p := by repeat' (first | exact Le.refl _ | exact Le.own _ _ _ | exact Le.nil _ | refine Le.agg ?_ | refine Le.tup ?_ | exact Les.refl _ | refine Les.cons ?_ ?_)) : p := h
theorem by3 {p : Prop} (h : p := by first | exact MLe.none _ | exact MLe.refl _ | (repeat' (first | exact MLe.nil | exact MLe.refl _ | refine MLe.cons _ ?_ | refine MLe.drop _ ?_))) : p := h
theorem by4 {p : Prop} (h : p := by repeat' (first | exact SLe.nil _ | refine SLe.cons rfl ?_ ?_ | exact Le.refl _ | exact Le.own _ _ _ | exact Le.nil _)) : p := h
theorem by5 {p : Prop} (h : p := by repeat' (first | exact SLe.wo _ _ | exact SLe.refl _ | refine SLe.fresh rfl ?_)) : p := h
theorem by6 {p : Prop} (h : p := by first | omega | (simp at *; omega)) : p := h
def cellF (w : World) : EH := fun b i => w.cell? ⟨b, i, none⟩
def fsOk (P : Program) (S : List TypeId) : Nat → List Field → Nat → Bool
 | k, [], n => k == n
 | k, f :: fs, n => f.offset == k && S.contains f.type && fsOk P S (k + P.cellsOf f.type) fs n
def closedT (P : Program) (S : List TypeId) : Bool := S.all fun t => match P.underlying t with
 | some .bool => true
 | some (.int _) => true
 | some .string => true
 | some (.slice e) => S.contains e && Nat.blt 0 (P.cellsOf e)
 | some (.struct fs) => fsOk P S 0 fs.toList (P.cellsOf t)
 | _ => false
section
variable {H : Type} {enc : TypeId × Value → H} {P : Program} {w : World} {sp : Nat → Bool} {held : Bool}
theorem cells_get {a : Addr} {m : Nat} {ws : List Value} (h : w.cells? 0 a m = some ws) : ws.length = m ∧ ∀ j x, ws[j]? = some x → w.cell? (a.add j) = some x := by
 unfold World.cells? at h
 rw [if_pos (Nat.zero_le _)] at h
 have hl : ws.length = m := by simpa using mapM_some_length h
 refine ⟨hl, fun j x hx => ?_⟩
 have hj : j < m := by
  rw [← hl]
  rcases Nat.lt_or_ge j ws.length with k | k
  ·exact k
  rw [List.getElem?_eq_none k] at hx; simp at hx
 have := mapM_some_get h j j (by simp [hj])
 rw [this, hx]
theorem Inv.start (w : World) : Inv w.heap.size (cellF w) [] w := ⟨Nat.le_refl _, fun _ _ _ h => h, by simp, List.Pairwise.nil⟩
theorem law_run {f : FuncId} {vs : List AV} {us : List Value} (h : ACall P f vs [] (fun v _ => v = .val (.bool true))) (hr : Rels (cellF w) vs us) : Calls P f us.toArray w fun e w' => e = .returned (.bool true) ∧ Below w.heap.size w w' := by
 refine (h.run w.heap.size (cellF w) [] w us (by simpa using Inv.start w) hr).mono ?_
 rintro e w' ⟨u, v, M', F', rfl, rfl, h3, _, _, h6⟩
 cases h3
 exact ⟨V, h6⟩
theorem rel_agg {F : EH} {v : Value} {cs : List AV} (hv : ∃ a, v = .agg a) (h : Rels F cs v.cells.toList) (h1 : Ones v.cells.toList) : Rel F (.agg cs) v := by
 obtain ⟨a, rfl⟩ := hv
 have := Rel.agg h h1
 simpa [Value.cells] using this
end
section
variable {P : Program} {n : Nat} {al : Sl} {M : Mem} {o : Oper} {K : AV → Mem → Prop}
theorem BCall.yes {f : FuncId} {vs : List AV} {p : Prop} (h : BCall P f vs p) (hp : p) : PCall P f vs (.val (.bool true)) :=
 h.mono (by rintro v M' ⟨⟨c, hc, rfl⟩, rfl⟩; exact ⟨by rw [hc.2 hp], rfl⟩)
theorem BCall.no {f : FuncId} {vs : List AV} {p : Prop} (h : BCall P f vs p) (hp : ¬ p) : PCall P f vs (.val (.bool false)) :=
 h.mono (by rintro v M' ⟨⟨c, hc, rfl⟩, rfl⟩; exact ⟨by cases c <;> simp_all, rfl⟩)
end
instance : DecidableEq ByteArray := fun a b => if h : a.toList = b.toList then isTrue (ba_eq h) else isFalse (fun e => h (by rw [e]))
inductive Ty where
 | mk (k : Int) (s : ByteArray) (n : Int) (ks : List Ty)
def Ty.kind : Ty → Int | .mk k _ _ _ => k
def Ty.name : Ty → ByteArray | .mk _ s _ _ => s
def Ty.num : Ty → Int | .mk _ _ n _ => n
def Ty.kids : Ty → List Ty | .mk _ _ _ ks => ks
mutual
def Ty.size : Ty → Nat
 | .mk _ _ _ ks => 1 + Ty.sizes ks
def Ty.sizes : List Ty → Nat
 | [] => 0
 | t :: ts => t.size + Ty.sizes ts
end
theorem Ty.size_pos (t : Ty) : 1 ≤ t.size := by cases t; simp [Ty.size]
theorem Ty.size_mem {t : Ty} : ∀ {ts : List Ty}, t ∈ ts → t.size ≤ Ty.sizes ts
 | [], h => by simp at h
 | u :: ts, h => by
  rw [Ty.sizes]
  rcases List.mem_cons.1 h with rfl | h
  ·omega
  have := Ty.size_mem h; omega
mutual
def Ty.cells : Ty → List AV
 | .mk k s n ks => [.val (.int .i64 k), .val (.string s), .val (.int .i64 n), .seq 4 (Ty.cellss ks)]
def Ty.cellss : List Ty → List (List AV)
 | [] => []
 | t :: ts => t.cells :: Ty.cellss ts
end
theorem Ty.cellss_map : ∀ ts : List Ty, Ty.cellss ts = ts.map Ty.cells
 | [] => by simp [Ty.cellss]
 | t :: ts => by simp [Ty.cellss, Ty.cellss_map ts]
theorem Ty.cellss_len (ts : List Ty) : (Ty.cellss ts).length = ts.length := by rw [Ty.cellss_map]; simp
theorem Ty.cellss_get {ts : List Ty} {i : Nat} {t : Ty} (h : ts[i]? = some t) : (Ty.cellss ts)[i]? = some t.cells := by rw [Ty.cellss_map]; simp [h]
theorem Ty.cellss_app (a b : List Ty) : Ty.cellss (a ++ b) = Ty.cellss a ++ Ty.cellss b := by simp [Ty.cellss_map]
theorem Ty.size_at {ts : List Ty} {i : Nat} {t : Ty} (h : ts[i]? = some t) : t.size ≤ Ty.sizes ts := Ty.size_mem (Xp h)
theorem Yj {α : Type} {l : List α} {i : Nat} (h : i < l.length) : ∃ x, l[i]? = some x := ⟨l[i], List.getElem?_eq_getElem h⟩
theorem drop_at {α : Type} {l : List α} {i : Nat} {x : α} (h : l[i]? = some x) : l.drop i = x :: l.drop (i + 1) := by
 have hi : i < l.length := by
  rcases Nat.lt_or_ge i l.length with k | k
  ·exact k
  rw [List.getElem?_eq_none k] at h; simp at h
 rw [List.drop_eq_getElem_cons hi]
 rw [List.getElem?_eq_getElem hi] at h
 simp at h
 rw [h]
mutual
def Ty.cnt : Ty → Int → Int
 | .mk k _ n ks, most => if k = 1 ∧ (ks ≠ [] ∨ n ≠ 0) then most else Ty.cnts ks 1 most
def Ty.cnts : List Ty → Int → Int → Int
 | [], n, _ => n
 | t :: ts, n, most => if n < most then Ty.cnts ts (n + t.cnt (most - n)) most else n
end
mutual
theorem Ty.cnt_bd : ∀ (t : Ty) (m : Int), 1 ≤ m → 1 ≤ t.cnt m ∧ t.cnt m ≤ m
 | .mk k s n ks, m, h => by
  rw [Ty.cnt]
  split
  ·omega
  exact Ty.cnts_bd ks 1 m (by omega) h
theorem Ty.cnts_bd : ∀ (ts : List Ty) (n m : Int), 1 ≤ n → n ≤ m → 1 ≤ Ty.cnts ts n m ∧ Ty.cnts ts n m ≤ m
 | [], n, m, h, h' => by rw [Ty.cnts]; omega
 | t :: ts, n, m, h, h' => by
  rw [Ty.cnts]
  split
  ·have := Ty.cnt_bd t (m - n) (by omega)
   exact Ty.cnts_bd ts _ m (by omega) (by omega)
  omega
end
inductive Ty.VarOk : Ty → Prop
 | mk (k : Int) (s : ByteArray) (n : Int) (ks : List Ty) (h : k = 1 → ks = [] ∧ n = 0) (hk : ∀ t ∈ ks, Ty.VarOk t) : Ty.VarOk (.mk k s n ks)
mutual
theorem Ty.cnt_size : ∀ (t : Ty) (m : Int), 1 ≤ m → t.cnt m < m → (t.size : Int) = t.cnt m ∧ t.VarOk
 | .mk k s n ks, m, h, hlt => by
  rw [Ty.cnt] at hlt ⊢
  split at hlt
  ·omega
  rename_i hc
  rw [if_neg hc]
  obtain ⟨h1, h2⟩ := Ty.cnts_size ks 1 m (by omega) h hlt
  refine ⟨by rw [Ty.size]; omega, .mk k s n ks (fun hk => ?_) h2⟩
  constructor
  ·cases ks with
   | nil => rfl
   | cons t ts => exact absurd ⟨hk, Or.inl (by simp)⟩ hc
  by_cases hn : n = 0
  ·exact hn
  exact absurd ⟨hk, Or.inr hn⟩ hc
theorem Ty.cnts_size : ∀ (ts : List Ty) (n m : Int), 1 ≤ n → n ≤ m → Ty.cnts ts n m < m → n + (Ty.sizes ts : Int) = Ty.cnts ts n m ∧ ∀ t ∈ ts, t.VarOk
 | [], n, m, h, h', hlt => by rw [Ty.cnts, Ty.sizes]; exact ⟨by simp, by simp⟩
 | t :: ts, n, m, h, h', hlt => by
  rw [Ty.cnts] at hlt ⊢
  split at hlt
  ·rename_i hc
   rw [if_pos hc]
   have hb := Ty.cnt_bd t (m - n) (by omega)
   obtain ⟨i1, i2⟩ := Ty.cnts_size ts (n + t.cnt (m - n)) m (by omega) (by omega) hlt
   have hlt2 : t.cnt (m - n) < m - n := by
    have := Ty.cnts_ge ts (n + t.cnt (m - n)) m (by omega) (by omega)
    omega
   obtain ⟨j1, j2⟩ := Ty.cnt_size t (m - n) (by omega) hlt2
   refine ⟨by rw [Ty.sizes]; omega, fun u hu => ?_⟩
   rcases List.mem_cons.1 hu with rfl | hu
   ·exact j2
   exact i2 u hu
  omega
theorem Ty.cnts_ge : ∀ (ts : List Ty) (n m : Int), 1 ≤ n → n ≤ m → n ≤ Ty.cnts ts n m
 | [], n, m, h, h' => by rw [Ty.cnts]; omega
 | t :: ts, n, m, h, h' => by
  rw [Ty.cnts]
  split
  ·have hb := Ty.cnt_bd t (m - n) (by omega)
   have := Ty.cnts_ge ts (n + t.cnt (m - n)) m (by omega) (by omega)
   omega
  omega
end
def Ty.small (t : Ty) (most : Int) : Bool := decide (t.cnt (most + 1) ≤ most)
theorem Ty.small_size {t : Ty} {most : Int} (h0 : 0 ≤ most) (h : t.small most = true) : (t.size : Int) ≤ most ∧ t.VarOk := by
 unfold Ty.small at h
 simp at h
 obtain ⟨h1, h2⟩ := Ty.cnt_size t (most + 1) (by omega) (by omega)
 exact ⟨by omega, h2⟩
theorem Ty.cnt_var {t : Ty} (h : t.kind = 1 ∧ (t.kids ≠ [] ∨ t.num ≠ 0)) (m : Int) : t.cnt m = m := by
 cases t; rw [Ty.cnt]; exact if_pos h
theorem Ty.cnt_not {t : Ty} (h : ¬ (t.kind = 1 ∧ (t.kids ≠ [] ∨ t.num ≠ 0))) (m : Int) : t.cnt m = Ty.cnts t.kids 1 m := by
 cases t; rw [Ty.cnt]; exact if_neg h
def strs (xs : List ByteArray) : List (List AV) := xs.map fun s => [.val (.string s)]
def nums (xs : List Int) : List (List AV) := xs.map fun s => [.val (.int .i64 s)]
theorem strs_len (xs : List ByteArray) : (strs xs).length = xs.length := by simp [strs]
theorem strs_get {xs : List ByteArray} {i : Nat} {s : ByteArray} (h : xs[i]? = some s) : (strs xs)[i]? = some [.val (.string s)] := by simp [strs, h]
def Upto {α : Type} (xs ys : List α) (i : Nat) : Prop := ∀ j, j < i → xs[j]? = ys[j]?
theorem Upto.zero {α : Type} (xs ys : List α) : Upto xs ys 0 := fun j hj => by omega
theorem Upto.succ {α : Type} {xs ys : List α} {i : Nat} {x y : α} (h : Upto xs ys i) (hx : xs[i]? = some x) (hy : ys[i]? = some y) (e : x = y) : Upto xs ys (i + 1) := fun j hj => by
 by_cases q : j = i
 ·subst q; rw [hx, hy, e]
 exact h j (by omega)
theorem Upto.eq {α : Type} {xs ys : List α} {i : Nat} (h : Upto xs ys i) (hl : xs.length = ys.length) (hi : xs.length ≤ i) : xs = ys := by
 apply List.ext_getElem?
 intro j
 rcases Nat.lt_or_ge j xs.length with k | k
 ·exact h j (by omega)
 rw [List.getElem?_eq_none k, List.getElem?_eq_none (by omega)]
theorem at_ne {α : Type} {xs ys : List α} {i : Nat} {x y : α} (hx : xs[i]? = some x) (hy : ys[i]? = some y) (e : x ≠ y) : ¬ xs = ys := fun h => by
 subst h; rw [hx] at hy; simp at hy; exact e hy
theorem len_ne {α : Type} {xs ys : List α} (h : xs.length ≠ ys.length) : ¬ xs = ys := fun e => h (by rw [e])
end Go.Proofs.YteepjjgooplljaaGreat
namespace Go.Proofs.YteepjjgooplljaaGreat
abbrev arrow : ByteArray := ⟨#[45, 62]⟩
def Ty.isFun (t : Ty) : Prop := t.kind = 3 ∧ t.name = arrow ∧ t.kids.length = 2
def Ty.args : Ty → List Ty
 | .mk k s _ [a, b] => if k = 3 ∧ s = arrow then a :: b.args else []
 | _ => []
termination_by t => t.size
decreasing_by simp [Ty.size, Ty.sizes]; omega
def Ty.ans : Ty → Ty
 | .mk k s n [a, b] => if k = 3 ∧ s = arrow then b.ans else .mk k s n [a, b]
 | t => t
termination_by t => t.size
decreasing_by simp [Ty.size, Ty.sizes]; omega
theorem Ty.fun_kids {t : Ty} (h : t.isFun) : ∃ n a b, t = .mk 3 arrow n [a, b] := by
 obtain ⟨k, s, n, ks⟩ := t
 obtain ⟨h1, h2, h3⟩ := h
 simp only [Ty.kind, Ty.name, Ty.kids] at h1 h2 h3
 subst h1 h2
 match ks, h3 with
 | [a, b], _ => exact ⟨n, a, b, rfl⟩
theorem Ty.args_fun (n : Int) (a b : Ty) : Ty.args (.mk 3 arrow n [a, b]) = a :: b.args := by rw [Ty.args]; simp
theorem Ty.ans_fun (n : Int) (a b : Ty) : Ty.ans (.mk 3 arrow n [a, b]) = b.ans := by rw [Ty.ans]; simp
theorem Ty.args_not {t : Ty} (h : ¬ t.isFun) : t.args = [] := by
 rw [Ty.args.eq_def]
 split
 ·rw [if_neg]
  rintro ⟨rfl, rfl⟩
  exact h ⟨V, V, V⟩
 rfl
theorem Ty.ans_not {t : Ty} (h : ¬ t.isFun) : t.ans = t := by
 rw [Ty.ans.eq_def]
 split
 ·rw [if_neg]
  rintro ⟨rfl, rfl⟩
  exact h ⟨V, V, V⟩
 rfl
theorem Ty.args_size : ∀ (t : Ty), t.args.length ≤ t.size := by
 intro t
 generalize hd : t.size = d
 induction d using Nat.strongRecOn generalizing t with
 | _ d ih =>
  by_cases h : t.isFun
  ·obtain ⟨n, a, b, rfl⟩ := Ty.fun_kids h
   rw [Ty.args_fun]
   have hb : b.size < d := by rw [← hd]; simp [Ty.size, Ty.sizes]; omega
   have := ih b.size hb b rfl
   simp
   omega
  rw [Ty.args_not h]; simp
mutual
def Ty.all : Ty → List Ty
 | .mk k s n ks => .mk k s n ks :: Ty.alls ks
def Ty.alls : List Ty → List Ty
 | [] => []
 | t :: ts => t.all ++ Ty.alls ts
end
theorem Ty.alls_app : ∀ a b : List Ty, Ty.alls (a ++ b) = Ty.alls a ++ Ty.alls b
 | [], b => by simp [Ty.alls]
 | t :: ts, b => by simp [Ty.alls, Ty.alls_app ts b]
mutual
theorem Ty.all_len : ∀ t : Ty, t.all.length = t.size
 | .mk k s n ks => by rw [Ty.all, Ty.size, List.length_cons, Ty.alls_len ks]; omega
theorem Ty.alls_len : ∀ ts : List Ty, (Ty.alls ts).length = Ty.sizes ts
 | [] => by simp [Ty.alls, Ty.sizes]
 | t :: ts => by rw [Ty.alls, Ty.sizes, List.length_append, Ty.all_len t, Ty.alls_len ts]
end
theorem Ty.alls_take (ks : List Ty) {i : Nat} {x : Ty} (h : ks[i]? = some x) : Ty.alls (ks.take (i + 1)) = Ty.alls (ks.take i) ++ x.all := by
 have hi : i < ks.length := by
  rcases Nat.lt_or_ge i ks.length with k | k
  ·exact k
  rw [List.getElem?_eq_none k] at h; simp at h
 rw [List.getElem?_eq_getElem hi] at h
 simp at h
 rw [List.take_succ_eq_append_getElem hi, Ty.alls_app, h]
 simp [Ty.alls]
theorem Ty.sizes_app : ∀ a b : List Ty, Ty.sizes (a ++ b) = Ty.sizes a + Ty.sizes b
 | [], b => by simp [Ty.sizes]
 | t :: ts, b => by simp [Ty.sizes, Ty.sizes_app ts b]; omega
theorem Ty.sizes_take (ks : List Ty) (i : Nat) : Ty.sizes (ks.take i) ≤ Ty.sizes ks := by
 have := Ty.sizes_app (ks.take i) (ks.drop i)
 rw [List.take_append_drop] at this
 omega
theorem take_snoc {α : Type} {l : List α} {i : Nat} {x : α} (h : l[i]? = some x) : l.take (i + 1) = l.take i ++ [x] := by
 have hi : i < l.length := by
  rcases Nat.lt_or_ge i l.length with k | k
  ·exact k
  rw [List.getElem?_eq_none k] at h; simp at h
 rw [List.getElem?_eq_getElem hi] at h
 simp at h
 rw [List.take_succ_eq_append_getElem hi, h]
noncomputable instance (a : ByteArray) (l : List ByteArray) : Decidable (a ∈ l) := Classical.propDecidable _
noncomputable def addVar (acc : List ByteArray) (t : Ty) : List ByteArray := if t.kind = 1 ∧ t.name ∉ acc then acc ++ [t.name] else acc
def addMeta (acc : List Int) (t : Ty) : List Int := if t.kind = 2 ∧ t.num ∉ acc then acc ++ [t.num] else acc
noncomputable def Ty.vars (t : Ty) : List ByteArray := t.all.foldl addVar []
def Ty.metas (t : Ty) : List Int := t.all.foldl addMeta []
theorem addVar_yes {acc : List ByteArray} {k : Int} {s : ByteArray} {n : Int} {ks : List Ty} (h : k = 1 ∧ s ∉ acc) : addVar acc (.mk k s n ks) = acc ++ [s] := if_pos h
theorem addVar_no {acc : List ByteArray} {k : Int} {s : ByteArray} {n : Int} {ks : List Ty} (h : ¬ (k = 1 ∧ s ∉ acc)) : addVar acc (.mk k s n ks) = acc := if_neg h
theorem strs_snoc (acc : List ByteArray) (s : ByteArray) : strs acc ++ [[.val (.string s)]] = strs (acc ++ [s]) := by simp [strs]
theorem addVar_len (acc : List ByteArray) (t : Ty) : (addVar acc t).length ≤ acc.length + 1 := by unfold addVar; split <;> simp
mutual
def Ty.turn (o : Ty → Option Ty) : Ty → Ty
 | .mk k s n ks => match o (.mk k s n ks) with
  | some y => y
  | none => .mk k s n (Ty.turns o ks)
def Ty.turns (o : Ty → Option Ty) : List Ty → List Ty
 | [] => []
 | t :: ts => t.turn o :: Ty.turns o ts
end
theorem Ty.turns_map (o : Ty → Option Ty) : ∀ ts : List Ty, Ty.turns o ts = ts.map (Ty.turn o)
 | [] => by simp [Ty.turns]
 | t :: ts => by simp [Ty.turns, Ty.turns_map o ts]
theorem Ty.turn_some {o : Ty → Option Ty} {t y : Ty} (h : o t = some y) : t.turn o = y := by
 obtain ⟨k, s, n, ks⟩ := t
 rw [Ty.turn, h]
theorem Ty.turn_none {o : Ty → Option Ty} {k : Int} {s : ByteArray} {n : Int} {ks : List Ty} (h : o (.mk k s n ks) = none) : (Ty.mk k s n ks).turn o = .mk k s n (Ty.turns o ks) := by
 rw [Ty.turn, h]
theorem Ty.turns_len (o : Ty → Option Ty) (ts : List Ty) : (Ty.turns o ts).length = ts.length := by rw [Ty.turns_map]; simp
theorem Ty.turns_snoc (o : Ty → Option Ty) (ts : List Ty) (x : Ty) : Ty.turns o (ts ++ [x]) = Ty.turns o ts ++ [x.turn o] := by simp [Ty.turns_map]
mutual
theorem Ty.turn_id : ∀ t : Ty, t.turn (fun _ => none) = t
 | .mk k s n ks => by rw [Ty.turn_none rfl, Ty.turns_id ks]
theorem Ty.turns_id : ∀ ts : List Ty, Ty.turns (fun _ => none) ts = ts
 | [] => by rw [Ty.turns]
 | t :: ts => by rw [Ty.turns, Ty.turn_id t, Ty.turns_id ts]
end
def firstAt {α : Type} [DecidableEq α] (x : α) : List α → Nat → Int
 | [], _ => -1
 | y :: ys, i => if x = y then i else firstAt x ys (i + 1)
theorem firstAt_drop {α : Type} [DecidableEq α] (x : α) : ∀ (xs : List α) (i : Nat), x ∉ xs.take i → firstAt x (xs.drop i) i = firstAt x xs 0 := by
 have key : ∀ (xs : List α) (i k : Nat), x ∉ xs.take i → firstAt x xs k = firstAt x (xs.drop i) (k + i) := by
  intro xs
  induction xs with
  | nil => intro i k _; simp [firstAt]
  | cons y ys ih =>
   intro i k h
   cases i with
   | zero => simp
   | succ i =>
    simp only [List.take_succ_cons, List.mem_cons, not_or] at h
    rw [firstAt, if_neg h.1, List.drop_succ_cons, ih i (k + 1) h.2]
    congr 1; omega
 intro xs i h
 have := key xs i 0 h
 rw [this]; congr 1; omega
theorem firstAt_nonneg {α : Type} [DecidableEq α] (x : α) : ∀ (xs : List α) (k : Nat), 0 ≤ firstAt x xs k ↔ x ∈ xs
 | [], k => by simp [firstAt]
 | y :: ys, k => by
  rw [firstAt]
  by_cases e : x = y
  ·simp [e]
  rw [if_neg e, firstAt_nonneg x ys (k + 1)]; simp [e]
theorem firstAt_lt {α : Type} [DecidableEq α] (x : α) : ∀ (xs : List α) (k : Nat), firstAt x xs k < k + xs.length
 | [], k => by simp [firstAt]; omega
 | y :: ys, k => by
  rw [firstAt]
  split
  ·simp; omega
  have := firstAt_lt x ys (k + 1); simp at this ⊢; omega
theorem not_mem_take {α : Type} {xs : List α} {i : Nat} {x y : α} (h : x ∉ xs.take i) (hx : xs[i]? = some y) (e : ¬ y = x) : x ∉ xs.take (i + 1) := by
 rw [take_snoc hx, List.mem_append]
 rintro (q | q)
 ·exact h q
 simp at q; exact e q.symm
def putO (names : List ByteArray) (ts : List Ty) (x : Ty) : Option Ty := if x.kind = 1 ∧ 0 ≤ firstAt x.name names 0 then ts[(firstAt x.name names 0).toNat]? else none
theorem putO_not {names : List ByteArray} {ts : List Ty} {k : Int} {s : ByteArray} {n : Int} {ks : List Ty} (h : k ≠ 1) : putO names ts (.mk k s n ks) = none := if_neg (fun q => h q.1)
theorem putO_out {names : List ByteArray} {ts : List Ty} {k : Int} {s : ByteArray} {n : Int} {ks : List Ty} (h : firstAt s names 0 < 0) : putO names ts (.mk k s n ks) = none := if_neg (fun q => by have := q.2; simp only [Ty.name] at this; omega)
theorem putO_big {names : List ByteArray} {ts : List Ty} {k : Int} {s : ByteArray} {n : Int} {ks : List Ty} (h : (ts.length : Int) ≤ firstAt s names 0) : putO names ts (.mk k s n ks) = none := by
 unfold putO
 split
 ·exact List.getElem?_eq_none (by simp only [Ty.name]; omega)
 rfl
theorem putO_in {names : List ByteArray} {ts : List Ty} {s : ByteArray} {n : Int} {ks : List Ty} {j : Nat} (h : firstAt s names 0 = j) : putO names ts (.mk 1 s n ks) = ts[j]? := by
 unfold putO
 simp only [Ty.kind, Ty.name, h]
 rw [if_pos ⟨trivial, by omega⟩]
 simp
theorem tmix : Tryz.prog.follows .mixedOrders = true := by kernel_rfl
theorem ta_2 : tyAgg Tryz.prog 2 = some none := by kernel_rfl
theorem tu_2 : Tryz.prog.underlying 2 = some (.int .i64) := by kernel_rfl
theorem ta_3 : tyAgg Tryz.prog 3 = some none := by kernel_rfl
theorem tu_3 : Tryz.prog.underlying 3 = some (.int .i64) := by kernel_rfl
theorem tu_4 : Tryz.prog.underlying 4 = some (.bool) := by kernel_rfl
theorem ta_9 : tyAgg Tryz.prog 9 = some none := by kernel_rfl
theorem tu_9 : Tryz.prog.underlying 9 = some (.string) := by kernel_rfl
theorem Xc : tyAgg Tryz.prog 22 = some none := by kernel_rfl
theorem ts_22 : (Tryz.prog.info? 22).map (·.size) = some 1 := by kernel_rfl
theorem te_22 : tyElem Tryz.prog 22 = some (24, 4) := by kernel_rfl
theorem el_22 : ElT Tryz.prog 22 24 (.agg #[(.int .i64 0), (.string ⟨#[]⟩), (.int .i64 0), (.slice none 0 0)]) 4 56 := ⟨by kernel_rfl, by kernel_rfl, rfl, by decide, by decide⟩
theorem tu_22 : Tryz.prog.underlying 22 = some (.slice 24) := by kernel_rfl
theorem Ye : tyAgg Tryz.prog 24 = some (some 4) := by kernel_rfl
theorem Yx : (Tryz.prog.info? 24).map (·.size) = some 4 := by kernel_rfl
theorem Yy : tyZero Tryz.prog 24 = some (.agg #[(.int .i64 0), (.string ⟨#[]⟩), (.int .i64 0), (.slice none 0 0)]) := by kernel_rfl
theorem tf_24_0 : tyFld Tryz.prog 24 0 = some 0 := by kernel_rfl
theorem tf_24_1 : tyFld Tryz.prog 24 1 = some 1 := by kernel_rfl
theorem tf_24_2 : tyFld Tryz.prog 24 2 = some 2 := by kernel_rfl
theorem Xa : tyFld Tryz.prog 24 3 = some 3 := by kernel_rfl
theorem tfl_24 : tyFlds Tryz.prog 24 = some [(0, 1), (1, 1), (2, 1), (3, 1)] := by kernel_rfl
theorem ta_25 : tyAgg Tryz.prog 25 = some none := by kernel_rfl
theorem te_25 : tyElem Tryz.prog 25 = some (29, 11) := by kernel_rfl
theorem el_25 : ElT Tryz.prog 25 29 (.agg #[(.int .i64 0), (.string ⟨#[]⟩), (.int .i64 0), (.int .i64 0), (.string ⟨#[]⟩), (.int .i64 0), (.slice none 0 0), (.slice none 0 0), (.slice none 0 0), (.slice none 0 0), (.slice none 0 0)]) 11 184 := ⟨by kernel_rfl, by kernel_rfl, rfl, by decide, by decide⟩
theorem tu_25 : Tryz.prog.underlying 25 = some (.slice 29) := by kernel_rfl
theorem ta_26 : tyAgg Tryz.prog 26 = some none := by kernel_rfl
theorem te_26 : tyElem Tryz.prog 26 = some (69, 16) := by kernel_rfl
theorem tu_26 : Tryz.prog.underlying 26 = some (.slice 69) := by kernel_rfl
theorem ta_27 : tyAgg Tryz.prog 27 = some none := by kernel_rfl
theorem ts_27 : (Tryz.prog.info? 27).map (·.size) = some 1 := by kernel_rfl
theorem te_27 : tyElem Tryz.prog 27 = some (46, 17) := by kernel_rfl
theorem el_27 : ElT Tryz.prog 27 46 (.agg #[(.string ⟨#[]⟩), (.slice none 0 0), (.int .i64 0), (.string ⟨#[]⟩), (.int .i64 0), (.slice none 0 0), (.int .i64 0), (.string ⟨#[]⟩), (.int .i64 0), (.int .i64 0), (.string ⟨#[]⟩), (.int .i64 0), (.slice none 0 0), (.slice none 0 0), (.slice none 0 0), (.slice none 0 0), (.slice none 0 0)]) 17 280 := ⟨by kernel_rfl, by kernel_rfl, rfl, by decide, by decide⟩
theorem tu_27 : Tryz.prog.underlying 27 = some (.slice 46) := by kernel_rfl
theorem Yz : tyAgg Tryz.prog 29 = some (some 11) := by kernel_rfl
theorem ts_29 : (Tryz.prog.info? 29).map (·.size) = some 11 := by kernel_rfl
theorem tz_29 : tyZero Tryz.prog 29 = some (.agg #[(.int .i64 0), (.string ⟨#[]⟩), (.int .i64 0), (.int .i64 0), (.string ⟨#[]⟩), (.int .i64 0), (.slice none 0 0), (.slice none 0 0), (.slice none 0 0), (.slice none 0 0), (.slice none 0 0)]) := by kernel_rfl
theorem tf_29_0 : tyFld Tryz.prog 29 0 = some 0 := by kernel_rfl
theorem tf_29_1 : tyFld Tryz.prog 29 1 = some 1 := by kernel_rfl
theorem tf_29_2 : tyFld Tryz.prog 29 2 = some 2 := by kernel_rfl
theorem tf_29_3 : tyFld Tryz.prog 29 3 = some 3 := by kernel_rfl
theorem tf_29_4 : tyFld Tryz.prog 29 4 = some 7 := by kernel_rfl
theorem tf_29_5 : tyFld Tryz.prog 29 5 = some 8 := by kernel_rfl
theorem tf_29_6 : tyFld Tryz.prog 29 6 = some 9 := by kernel_rfl
theorem tf_29_7 : tyFld Tryz.prog 29 7 = some 10 := by kernel_rfl
theorem tfl_29 : tyFlds Tryz.prog 29 = some [(0, 1), (1, 1), (2, 1), (3, 4), (7, 1), (8, 1), (9, 1), (10, 1)] := by kernel_rfl
theorem ta_37 : tyAgg Tryz.prog 37 = some none := by kernel_rfl
theorem te_37 : tyElem Tryz.prog 37 = some (114, 5) := by kernel_rfl
theorem tu_37 : Tryz.prog.underlying 37 = some (.slice 114) := by kernel_rfl
theorem ta_38 : tyAgg Tryz.prog 38 = some none := by kernel_rfl
theorem te_38 : tyElem Tryz.prog 38 = some (118, 6) := by kernel_rfl
theorem tu_38 : Tryz.prog.underlying 38 = some (.slice 118) := by kernel_rfl
theorem ta_41 : tyAgg Tryz.prog 41 = some (some 3) := by kernel_rfl
theorem tz_41 : tyZero Tryz.prog 41 = some (.agg #[(.slice none 0 0), (.slice none 0 0), (.slice none 0 0)]) := by kernel_rfl
theorem tf_41_0 : tyFld Tryz.prog 41 0 = some 0 := by kernel_rfl
theorem tf_41_1 : tyFld Tryz.prog 41 1 = some 1 := by kernel_rfl
theorem tfl_41 : tyFlds Tryz.prog 41 = some [(0, 1), (1, 1), (2, 1)] := by kernel_rfl
theorem ta_44 : tyAgg Tryz.prog 44 = some none := by kernel_rfl
theorem ts_44 : (Tryz.prog.info? 44).map (·.size) = some 1 := by kernel_rfl
theorem tz_44 : tyZero Tryz.prog 44 = some (.slice none 0 0) := by kernel_rfl
theorem te_44 : tyElem Tryz.prog 44 = some (9, 1) := by kernel_rfl
theorem el_44 : ElT Tryz.prog 44 9 (.string ⟨#[]⟩) 1 16 := ⟨by kernel_rfl, by kernel_rfl, rfl, by decide, by decide⟩
theorem tu_44 : Tryz.prog.underlying 44 = some (.slice 9) := by kernel_rfl
theorem ta_46 : tyAgg Tryz.prog 46 = some (some 17) := by kernel_rfl
theorem ts_46 : (Tryz.prog.info? 46).map (·.size) = some 17 := by kernel_rfl
theorem tz_46 : tyZero Tryz.prog 46 = some (.agg #[(.string ⟨#[]⟩), (.slice none 0 0), (.int .i64 0), (.string ⟨#[]⟩), (.int .i64 0), (.slice none 0 0), (.int .i64 0), (.string ⟨#[]⟩), (.int .i64 0), (.int .i64 0), (.string ⟨#[]⟩), (.int .i64 0), (.slice none 0 0), (.slice none 0 0), (.slice none 0 0), (.slice none 0 0), (.slice none 0 0)]) := by kernel_rfl
theorem tf_46_0 : tyFld Tryz.prog 46 0 = some 0 := by kernel_rfl
theorem tf_46_1 : tyFld Tryz.prog 46 1 = some 1 := by kernel_rfl
theorem tf_46_2 : tyFld Tryz.prog 46 2 = some 2 := by kernel_rfl
theorem tf_46_3 : tyFld Tryz.prog 46 3 = some 6 := by kernel_rfl
theorem tfl_46 : tyFlds Tryz.prog 46 = some [(0, 1), (1, 1), (2, 4), (6, 11)] := by kernel_rfl
theorem ta_65 : tyAgg Tryz.prog 65 = some none := by kernel_rfl
theorem te_65 : tyElem Tryz.prog 65 = some (67, 5) := by kernel_rfl
theorem tu_65 : Tryz.prog.underlying 65 = some (.slice 67) := by kernel_rfl
theorem ta_67 : tyAgg Tryz.prog 67 = some (some 5) := by kernel_rfl
theorem ts_67 : (Tryz.prog.info? 67).map (·.size) = some 5 := by kernel_rfl
theorem tz_67 : tyZero Tryz.prog 67 = some (.agg #[(.int .i64 0), (.string ⟨#[]⟩), (.int .i64 0), (.slice none 0 0), (.int .i64 0)]) := by kernel_rfl
theorem tf_67_0 : tyFld Tryz.prog 67 0 = some 0 := by kernel_rfl
theorem tf_67_1 : tyFld Tryz.prog 67 1 = some 1 := by kernel_rfl
theorem tf_67_2 : tyFld Tryz.prog 67 2 = some 2 := by kernel_rfl
theorem tf_67_3 : tyFld Tryz.prog 67 3 = some 3 := by kernel_rfl
theorem ta_69 : tyAgg Tryz.prog 69 = some (some 16) := by kernel_rfl
theorem ts_69 : (Tryz.prog.info? 69).map (·.size) = some 16 := by kernel_rfl
theorem tz_69 : tyZero Tryz.prog 69 = some (.agg #[(.int .i64 0), (.string ⟨#[]⟩), (.int .i64 0), (.slice none 0 0), (.int .i64 0), (.int .i64 0), (.string ⟨#[]⟩), (.int .i64 0), (.int .i64 0), (.string ⟨#[]⟩), (.int .i64 0), (.slice none 0 0), (.slice none 0 0), (.slice none 0 0), (.slice none 0 0), (.slice none 0 0)]) := by kernel_rfl
theorem tf_69_0 : tyFld Tryz.prog 69 0 = some 0 := by kernel_rfl
theorem tf_69_1 : tyFld Tryz.prog 69 1 = some 5 := by kernel_rfl
theorem ta_89 : tyAgg Tryz.prog 89 = some (some 2) := by kernel_rfl
theorem tz_89 : tyZero Tryz.prog 89 = some (.agg #[(.slice none 0 0), (.slice none 0 0)]) := by kernel_rfl
theorem tf_89_0 : tyFld Tryz.prog 89 0 = some 0 := by kernel_rfl
theorem tf_89_1 : tyFld Tryz.prog 89 1 = some 1 := by kernel_rfl
theorem tfl_89 : tyFlds Tryz.prog 89 = some [(0, 1), (1, 1)] := by kernel_rfl
theorem el_90 : ElT Tryz.prog 90 187 (.agg #[(.string ⟨#[]⟩), (.int .i64 0), (.int .i64 0), (.slice none 0 0), (.slice none 0 0), (.int .i64 0), (.string ⟨#[]⟩), (.int .i64 0), (.slice none 0 0)]) 9 136 := ⟨by kernel_rfl, by kernel_rfl, rfl, by decide, by decide⟩
theorem ta_92 : tyAgg Tryz.prog 92 = some (some 6) := by kernel_rfl
theorem ts_92 : (Tryz.prog.info? 92).map (·.size) = some 6 := by kernel_rfl
theorem tz_92 : tyZero Tryz.prog 92 = some (.agg #[(.slice none 0 0), (.slice none 0 0), (.slice none 0 0), (.slice none 0 0), (.slice none 0 0), (.slice none 0 0)]) := by kernel_rfl
theorem tf_92_0 : tyFld Tryz.prog 92 0 = some 0 := by kernel_rfl
theorem tf_92_1 : tyFld Tryz.prog 92 1 = some 2 := by kernel_rfl
theorem tfl_92 : tyFlds Tryz.prog 92 = some [(0, 2), (2, 3), (5, 1)] := by kernel_rfl
theorem ta_114 : tyAgg Tryz.prog 114 = some (some 5) := by kernel_rfl
theorem tf_114_0 : tyFld Tryz.prog 114 0 = some 0 := by kernel_rfl
theorem tf_114_1 : tyFld Tryz.prog 114 1 = some 1 := by kernel_rfl
theorem ta_118 : tyAgg Tryz.prog 118 = some (some 6) := by kernel_rfl
theorem tf_118_0 : tyFld Tryz.prog 118 0 = some 0 := by kernel_rfl
theorem ta_146 : tyAgg Tryz.prog 146 = some none := by kernel_rfl
theorem ta_181 : tyAgg Tryz.prog 181 = some (some 5) := by kernel_rfl
theorem ts_181 : (Tryz.prog.info? 181).map (·.size) = some 5 := by kernel_rfl
theorem tz_181 : tyZero Tryz.prog 181 = some (.agg #[(.string ⟨#[]⟩), (.int .i64 0), (.string ⟨#[]⟩), (.int .i64 0), (.slice none 0 0)]) := by kernel_rfl
theorem tf_181_0 : tyFld Tryz.prog 181 0 = some 0 := by kernel_rfl
theorem tf_181_1 : tyFld Tryz.prog 181 1 = some 1 := by kernel_rfl
theorem tfl_181 : tyFlds Tryz.prog 181 = some [(0, 1), (1, 4)] := by kernel_rfl
theorem ta_182 : tyAgg Tryz.prog 182 = some (some 85) := by kernel_rfl
theorem ts_182 : (Tryz.prog.info? 182).map (·.size) = some 85 := by kernel_rfl
theorem tz_182 : tyZero Tryz.prog 182 = some (.agg #[(.string ⟨#[]⟩), (.int .i64 0), (.string ⟨#[]⟩), (.int .i64 0), (.slice none 0 0), (.string ⟨#[]⟩), (.int .i64 0), (.string ⟨#[]⟩), (.int .i64 0), (.slice none 0 0), (.string ⟨#[]⟩), (.int .i64 0), (.string ⟨#[]⟩), (.int .i64 0), (.slice none 0 0), (.string ⟨#[]⟩), (.int .i64 0), (.string ⟨#[]⟩), (.int .i64 0), (.slice none 0 0), (.string ⟨#[]⟩), (.int .i64 0), (.string ⟨#[]⟩), (.int .i64 0), (.slice none 0 0), (.string ⟨#[]⟩), (.int .i64 0), (.string ⟨#[]⟩), (.int .i64 0), (.slice none 0 0), (.string ⟨#[]⟩), (.int .i64 0), (.string ⟨#[]⟩), (.int .i64 0), (.slice none 0 0), (.string ⟨#[]⟩), (.int .i64 0), (.string ⟨#[]⟩), (.int .i64 0), (.slice none 0 0), (.string ⟨#[]⟩), (.int .i64 0), (.string ⟨#[]⟩), (.int .i64 0), (.slice none 0 0), (.string ⟨#[]⟩), (.int .i64 0), (.string ⟨#[]⟩), (.int .i64 0), (.slice none 0 0), (.string ⟨#[]⟩), (.int .i64 0), (.string ⟨#[]⟩), (.int .i64 0), (.slice none 0 0), (.string ⟨#[]⟩), (.int .i64 0), (.string ⟨#[]⟩), (.int .i64 0), (.slice none 0 0), (.string ⟨#[]⟩), (.int .i64 0), (.string ⟨#[]⟩), (.int .i64 0), (.slice none 0 0), (.string ⟨#[]⟩), (.int .i64 0), (.string ⟨#[]⟩), (.int .i64 0), (.slice none 0 0), (.string ⟨#[]⟩), (.int .i64 0), (.string ⟨#[]⟩), (.int .i64 0), (.slice none 0 0), (.string ⟨#[]⟩), (.int .i64 0), (.string ⟨#[]⟩), (.int .i64 0), (.slice none 0 0), (.string ⟨#[]⟩), (.int .i64 0), (.string ⟨#[]⟩), (.int .i64 0), (.slice none 0 0)]) := by kernel_rfl
theorem tu_182 : Tryz.prog.underlying 182 = some (.array 17 181) := by kernel_rfl
theorem tz_185 : tyZero Tryz.prog 185 = some (.agg #[(.slice none 0 0), (.slice none 0 0), (.int .i64 0), (.string ⟨#[]⟩), (.int .i64 0), (.slice none 0 0)]) := by kernel_rfl
theorem tfl_185 : tyFlds Tryz.prog 185 = some [(0, 1), (1, 1), (2, 4)] := by kernel_rfl
theorem tz_187 : tyZero Tryz.prog 187 = some (.agg #[(.string ⟨#[]⟩), (.int .i64 0), (.int .i64 0), (.slice none 0 0), (.slice none 0 0), (.int .i64 0), (.string ⟨#[]⟩), (.int .i64 0), (.slice none 0 0)]) := by kernel_rfl
theorem tfl_187 : tyFlds Tryz.prog 187 = some [(0, 1), (1, 1), (2, 1), (3, 6)] := by kernel_rfl
open Go.RowKit
section
variable {P : Program}
end
theorem cellsOf_ty : Tryz.prog.cellsOf 24 = 4 := by kernel_rfl
theorem cellsOf_str : Tryz.prog.cellsOf 9 = 1 := by kernel_rfl
end Go.Proofs.YteepjjgooplljaaGreat
namespace Go.Proofs.YteepjjgooplljaaGreat
open Go.ChangeShapes Go.WideShapes Go.ChangeAt Go.RowKit
section
variable {H : Type} {enc : TypeId × Value → H} {P : Program}
theorem trodAll_below (hl : laidOutB P = true) {W W' : World} (hb : Below W.heap.size W W') :
    ∀ {ts : List TypeId} {vs : List Value} {ds : List (DataW H)} {ps : List MemPlace},
     (∀ t ∈ ts, P.readableRec t = true ∧ t < P.types.size) → DataW.TrodAll enc P W 0 (fun _ => true) true ts vs ds ps →
     (∀ x ∈ ps, x.block < W.heap.size) → DataW.TrodAll enc P W' 0 (fun b => decide (b < W.heap.size)) true ts vs ds ps
 | [], _, _, _, _, h, _ => by
  obtain ⟨rfl, rfl, rfl⟩ := trodAll_nil h
  exact trodAll_mk0
 | t :: ts, _, _, _, hr, h, hlt => by
  obtain ⟨v, vs, d, ds, p, q, rfl, rfl, rfl, h0, h1⟩ := trodAll_cons h
  exact trodAll_cons_mk (Below.trod hl (hr t (by simp)).1 (hr t (by simp)).2 h0 hb (fun x hx => hlt x (by simp [hx])))
   (trodAll_below hl hb (fun t ht => hr t (by simp [ht])) h1 (fun x hx => hlt x (by simp [hx])))
theorem law_post {f : Func} {s : ChangeSpec} {W W' : World} {args : Array Value} {ds gs : List (DataW H)} {before : List MemPlace} {tb : TypeId}
    (hl : laidOutB P = true) (hr : (f.params.toList.all fun t => P.readableRec t && decide (t < P.types.size)) = true)
    (hres : f.resultTypes = #[tb]) (htb : P.underlying tb = some .bool) (hvars : s.vars = [])
    (hs1 : (s.fn H (ds ++ gs)).results = [.lit (.bool true)]) (hs2 : (s.fn H (ds ++ gs)).args = ds) (hs3 : (s.fn H (ds ++ gs)).vars = [])
    (hW : DataW.Whole enc P f.params.toList s.vars false W args.toList ds gs before) (hb : Below W.heap.size W W') :
    s.post enc P f false true false false W args (.bool true) W' := by
 have hW' := hW
 obtain ⟨p, q, hA, hV, rfl, hfz, hnd⟩ := hW
 have hr' : ∀ t ∈ f.params.toList, P.readableRec t = true ∧ t < P.types.size := by
  intro t ht
  have := List.all_eq_true.1 hr t ht
  simpa using this
 refine ⟨ds, gs, p ++ q, [], p, [], hW', ?_, ?_, ?_, hb.frame _, fun h => by cases h⟩
 ·rw [hs1, hres]
  exact trodAll_mk1 (shut_bool htb true)
 ·rw [hs2]
  exact trodAll_below hl hb hr' hA (fun x hx => by simpa using hW'.lt x (by simp [hx]))
 rw [hs3, hvars]
 rfl
end
open Go.RowKit
abbrev uptoBulk {H : Type} : DataW H → Nat := Rows.uptoBulk
abbrev uptoBulkAll {H : Type} : List (DataW H) → Nat := Rows.uptoBulkAll
mutual
def ShapeL (P : Program) (L : Nat) : Nat → TypeId → List AV → Prop
 | 0, _, _ => False
 | n + 1, t, cs => match P.underlying t with
  | some .bool => ∃ b, cs = [.val (.bool b)]
  | some (.int k) => ∃ x, (k.min ≤ x ∧ x ≤ k.max) ∧ cs = [.val (.int k x)]
  | some .string => ∃ s : ByteArray, s.size ≤ L ∧ cs = [.val (.string s)]
  | some (.slice e) => ∃ es, cs = [.seq (P.cellsOf e) es] ∧ es.length ≤ L ∧ ∀ x ∈ es, ShapeL P L n e x
  | some (.struct fs) => ShapeLF P L n fs.toList cs
  | _ => False
def ShapeLF (P : Program) (L : Nat) : Nat → List Field → List AV → Prop
 | _, [], cs => cs = []
 | n, f :: fs, cs => ∃ a b, cs = a ++ b ∧ ShapeL P L n f.type a ∧ ShapeLF P L n fs b
end
mutual
def AV.bulk : AV → Nat
 | .val (.string s) => s.size + 1
 | .seq _ es => bulkss es + 1
 | _ => 1
def bulks : List AV → Nat
 | [] => 0
 | a :: l => a.bulk + bulks l
def bulkss : List (List AV) → Nat
 | [] => 0
 | e :: es => bulks e + bulkss es
end
theorem bulks_app : ∀ a b : List AV, bulks (a ++ b) = bulks a + bulks b
 | [], b => by simp [bulks]
 | x :: a, b => by simp only [List.cons_append, bulks, bulks_app a b]; omega
theorem bulkss_app : ∀ a b : List (List AV), bulkss (a ++ b) = bulkss a + bulkss b
 | [], b => by simp [bulkss]
 | x :: a, b => by simp only [List.cons_append, bulkss, bulkss_app a b]; omega
theorem uptoBulkAll_app {H : Type} : ∀ a b : List (DataW H), uptoBulkAll (a ++ b) = uptoBulkAll a + uptoBulkAll b
 | [], b => by simp [uptoBulkAll, Rows.uptoBulkAll]
 | x :: a, b => by have := uptoBulkAll_app a b; simp only [uptoBulkAll] at this; simp only [List.cons_append, uptoBulkAll, Rows.uptoBulkAll, this]; omega
def closedL (P : Program) (S : List TypeId) : Bool := closedT P S && S.all fun t => match P.underlying t with
 | some (.slice e) => Nat.blt 0 (P.bytesOf e)
 | _ => true
section
variable {H : Type} {enc : TypeId × Value → H} {P : Program} {w : World} {sp : Nat → Bool} {held : Bool} {L : Nat}
theorem rows_of2 {fuel : Nat} {e : TypeId} {a : Addr} {m : Nat} {F : EH} (ds : List (DataW H)) : ∀ n : Nat, n ≤ ds.length → (∀ i d, i < n → ds[i]? = some d → ∃ (ws : List Value) (es : List AV), w.cells? 0 (a.add (i * m)) m = some ws ∧ ShapeL P L fuel e es ∧ Rels F es ws ∧ Ones ws ∧ bulks es ≤ uptoBulk d) →
    ∃ (ess : List (List AV)) (vs : List Value), ess.length = n ∧ (∀ x ∈ ess, ShapeL P L fuel e x ∧ x.length = m) ∧ Rels F ess.flatten vs ∧ Ones vs ∧ vs.length = n * m ∧ (∀ j x, vs[j]? = some x → w.cell? (a.add j) = some x) ∧ bulkss ess ≤ uptoBulkAll (ds.take n)
 | 0, _, _ => ⟨[], [], rfl, by simp, .nil, by intro v hv; simp at hv, by simp, by simp, by simp [bulkss]⟩
 | n + 1, hn, h => by
  obtain ⟨ess, vs, h1, h2, h3, h4, h5, h6, h7⟩ := rows_of2 ds n (by omega) (fun i d hi hd => h i d (by omega) hd)
  have hlt : n < ds.length := by omega
  obtain ⟨ws, es, k1, k2, k3, k4, k5⟩ := h n ds[n] (by omega) (List.getElem?_eq_getElem hlt)
  obtain ⟨q1, q2⟩ := cells_get k1
  refine ⟨ess ++ [es], vs ++ ws, by simp [h1], fun x hx => ?_, by simpa using h3.app k3, fun v hv => ?_, by simp only [List.length_append, h5, q1, Nat.add_mul]; omega, fun j x hx => ?_, ?_⟩
  ·rcases List.mem_append.1 hx with r | r
   ·exact h2 x r
   simp at r; subst r; exact ⟨k2, by rw [k3.len, q1]⟩
  ·rcases List.mem_append.1 hv with r | r
   ·exact h4 v r
   exact k4 v r
  ·rcases Nat.lt_or_ge j vs.length with r | r
   ·rw [List.getElem?_append_left r] at hx; exact h6 j x hx
   rw [List.getElem?_append_right r] at hx
   have := q2 _ x hx
   have e1 : (a.add (n * m)).add (j - vs.length) = a.add j := by
    rw [h5] at r ⊢
    unfold Addr.add
    by_cases z1 : n * m = 0
    ·rw [if_pos z1]
     simp only [z1, Nat.sub_zero]
    rw [if_neg z1]
    have hj0 : j ≠ 0 := by omega
    rw [if_neg hj0]
    by_cases z2 : j - n * m = 0
    ·rw [if_pos z2]
     simp only [Addr.mk.injEq, true_and, and_true]
     omega
    rw [if_neg z2]
    simp only [Addr.mk.injEq, true_and, and_true]
    omega
   rwa [e1] at this
  rw [bulkss_app, List.take_add_one, List.getElem?_eq_getElem hlt, uptoBulkAll_app]
  simp only [bulkss, Option.toList, uptoBulkAll, Rows.uptoBulkAll]
  simp only [uptoBulk, uptoBulkAll] at *
  omega
theorem weights_all {e : TypeId} : ∀ {ds : List (DataW H)} {i : Nat} {d : DataW H}, ds[i]? = some d → ∀ n ∈ d.weights P e, n ∈ DataW.weightsAll P e ds
 | [], i, d, h, _, _ => by simp at h
 | x :: ds, 0, d, h, n, hn => by
  simp at h; subst h
  simp only [DataW.weightsAll, List.mem_append]; exact .inl hn
 | x :: ds, i + 1, d, h, n, hn => by
  simp only [DataW.weightsAll, List.mem_append]; exact .inr (weights_all (by simpa using h) n hn)
theorem open_shape2 {S : List TypeId} (hS : closedL P S = true) (hL : L ≤ maxLen) : ∀ (fuel : Nat) (t : TypeId) (vs : List Value) (x : DataW H × List MemPlace), t ∈ S → DataW.trod enc P w 0 sp held fuel t vs = some x → (∀ n ∈ x.1.weights P t, n ≤ L) →
    ∃ cs, ShapeL P L fuel t cs ∧ Rels (cellF w) cs vs ∧ Ones vs ∧ bulks cs ≤ uptoBulk x.1 := by
 have hS1 : closedT P S = true := by unfold closedL at hS; exact (Bool.and_eq_true_iff.1 hS).1
 have hS2 := by unfold closedL at hS; exact (Bool.and_eq_true_iff.1 hS).2
 intro fuel
 induction fuel with
 | zero => intro t vs x _ h; simp [DataW.trod] at h
 | succ n ih =>
  intro t vs x ht h hw
  have hc := List.all_eq_true.1 hS1 t ht
  have hc2 := List.all_eq_true.1 hS2 t ht
  have hh := h
  unfold DataW.trod at h
  unfold ShapeL
  cases hu : P.underlying t with
  | none => rw [hu] at hc; simp at hc
  | some d =>
   rw [hu] at hc hc2 h
   cases d with
   | bool =>
    simp only at h
    split at h <;> first | (simp at h; done) | skip
    all_goals first | (rename_i b _; simp at h; subst h; exact ⟨[.val (.bool b)], ⟨b, rfl⟩, .cons (.val _) .nil, by intro v hv; simp at hv; subst hv; rfl, by simp [bulks, AV.bulk, uptoBulk, Rows.uptoBulk]⟩) | (simp_all; done)
   | int k =>
    simp only at h
    split at h <;> simp_all
    rename_i k' z _
    obtain ⟨⟨rfl, hwf⟩, rfl⟩ := h
    simp only [Lit.wf, Bool.and_eq_true, decide_eq_true_eq] at hwf
    exact ⟨_, ⟨z, hwf, rfl⟩, .cons (.val _) .nil, by intro v hv; simp at hv; subst hv; rfl, by simp [bulks, AV.bulk, uptoBulk, Rows.uptoBulk]⟩
   | string =>
    simp only at h
    split at h <;> simp_all
    obtain ⟨_, rfl⟩ := h
    rename_i s _
    have hsz : s.data.toList.length ≤ L := hw _ (by simp [DataW.weights])
    exact ⟨_, ⟨_, by simpa using hsz, rfl⟩, .cons (.val _) .nil, by intro v hv; simp at hv; subst hv; rfl, by simp [bulks, AV.bulk, uptoBulk, Rows.uptoBulk]⟩
   | slice e =>
    simp only [Bool.and_eq_true, List.contains_iff_mem, Nat.blt_eq] at hc hc2
    rcases DataW.trod_slice hu hh with ⟨rfl, rfl⟩ | ⟨a, len, cap, elems, rest, n', hn, rfl, rfl, _, hlc, hcm, hel, hat, _⟩
    ·exact ⟨[.seq (P.cellsOf e) []], ⟨[], rfl, by simp, by simp⟩, .cons (.seq0 _ none 0 (fun _ => rfl)) .nil, by intro v hv; simp at hv; subst hv; rfl, by simp [bulks, AV.bulk, bulkss, uptoBulk, Rows.uptoBulk]⟩
    obtain rfl : n = n' := by omega
    have hlenL : len ≤ L := by
     have h1 := hw ((elems.length + rest.length) * P.bytesOf e) (by simp [DataW.weights, hu])
     have h2 : len * 1 ≤ (elems.length + rest.length) * P.bytesOf e := Nat.mul_le_mul (by omega) hc2
     omega
    have hrows : ∀ i d, i < len → (elems.map (·.1))[i]? = some d → ∃ ws es, w.cells? 0 (a.add (i * P.cellsOf e)) (P.cellsOf e) = some ws ∧ ShapeL P L n e es ∧ Rels (cellF w) es ws ∧ Ones ws ∧ bulks es ≤ uptoBulk d := by
     intro i d hi hd
     have h1 := hat i hi
     rw [List.getElem?_eq_getElem (by omega)] at h1
     obtain ⟨ws, h2, h3⟩ := Option.bind_eq_some_iff.1 h1
     have hdd : (elems[i]'(by omega)).1 = d := by
      rw [List.getElem?_map, List.getElem?_eq_getElem (by omega)] at hd
      simpa using hd
     obtain ⟨es, h4, h5, h6, h7⟩ := ih e ws _ hc.1 h3 (by
      intro k hk
      rw [hdd] at hk
      refine hw k ?_
      simp only [DataW.weights, hu, List.mem_cons, List.mem_append]
      exact .inr (.inl (weights_all hd k hk)))
     exact ⟨ws, es, h2, h4, h5, h6, by rw [hdd] at h7; exact h7⟩
    obtain ⟨ess, vs', r1, r2, r3, r4, r5, r6, r7⟩ := rows_of2 (elems.map (·.1)) len (by simp; omega) hrows
    have hb : bulks [AV.seq (P.cellsOf e) ess] ≤ uptoBulk (DataW.slice (elems.map (·.1)) (rest.map (·.1))) := by
     rw [List.take_of_length_le (by simp; omega)] at r7
     simp only [bulks, AV.bulk, uptoBulk, uptoBulkAll, Rows.uptoBulk] at *
     omega
    refine ⟨[.seq (P.cellsOf e) ess], ⟨ess, rfl, by omega, fun x hx => (r2 x hx).1⟩, .cons ?_ .nil, by intro v hv; simp at hv; subst hv; rfl, hb⟩
    by_cases h0 : len = 0
    ·subst h0
     have : ess = [] := List.eq_nil_of_length_eq_zero r1
     subst this
     exact .seq0 _ _ _ (by simp)
    have hpos : 0 < vs'.length := by rw [r5]; exact Nat.mul_pos (by omega) hc.2
    have hsp : a.spot = none := by
     have := r6 0 vs'[0] (List.getElem?_eq_getElem hpos)
     have e0 : a.add 0 = a := by simp [Addr.add]
     rw [e0] at this
     unfold World.cell? at this
     cases hs : a.spot with
     | none => rfl
     | some q => rw [hs] at this; simp at this; split at this <;> simp at this
    obtain ⟨b, off, spot⟩ := a
    simp only at hsp
    subst hsp
    subst r1
    refine .seq b off cap (fun x hx => (r2 x hx).2) (by omega) (fun j x hx => ?_) r3 r4 (by omega)
    have := r6 j x hx
    rwa [addr_add0] at this
   | struct fs =>
    simp only at hc
    obtain ⟨xs, n', hn, rfl, hlen, hxl, hat⟩ := DataW.trod_struct hu hh
    obtain rfl : n = n' := by omega
    have key : ∀ (l : List Field) (ys : List (DataW H × List MemPlace)) (k : Nat), ys.length = l.length → (∀ (i : Nat) (f : Field), l[i]? = some f → DataW.trod enc P w 0 sp held n f.type ((vs.drop f.offset).take (P.cellsOf f.type)) = ys[i]?) → fsOk P S k l (P.cellsOf t) = true → (∀ j ∈ DataW.weightsEach P (l.map (·.type)) (ys.map (·.1)), j ≤ L) →
        ∃ cs, ShapeLF P L n l cs ∧ Rels (cellF w) cs (vs.drop k) ∧ Ones (vs.drop k) ∧ bulks cs ≤ uptoBulkAll (ys.map (·.1)) := by
     intro l
     induction l with
     | nil =>
      intro ys k _ _ hk _
      simp only [fsOk, beq_iff_eq] at hk
      refine ⟨[], by simp [ShapeLF], ?_, ?_, by simp [bulks]⟩
      ·rw [List.drop_eq_nil_of_le (by omega)]; exact .nil
      rw [List.drop_eq_nil_of_le (by omega)]; intro v hv; simp at hv
     | cons f l ihl =>
      intro ys k hyl hf hk hwt
      cases ys with
      | nil => simp at hyl
      | cons y ys =>
       simp only [fsOk, Bool.and_eq_true, beq_iff_eq, List.contains_iff_mem] at hk
       obtain ⟨⟨rfl, hS1⟩, hk⟩ := hk
       have hy := hf 0 f (by simp)
       simp only [List.getElem?_cons_zero] at hy
       simp only [List.map_cons, DataW.weightsEach, List.mem_append] at hwt
       obtain ⟨c1, h1, h2, h3, h7⟩ := ih f.type _ y hS1 hy (fun j hj => hwt j (.inl hj))
       obtain ⟨c2, h4, h5, h6, h8⟩ := ihl ys (f.offset + P.cellsOf f.type) (by simpa using hyl) (fun i g hg => by have := hf (i + 1) g (by simpa using hg); simpa using this) hk (fun j hj => hwt j (.inr hj))
       have e1 : vs.drop f.offset = (vs.drop f.offset).take (P.cellsOf f.type) ++ vs.drop (f.offset + P.cellsOf f.type) := by
        rw [← List.drop_drop, List.take_append_drop]
       refine ⟨c1 ++ c2, by rw [ShapeLF]; exact ⟨c1, c2, V, h1, h4⟩, by rw [e1]; exact h2.app h5, ?_, ?_⟩
       ·rw [e1]
        intro v hv
        rcases List.mem_append.1 hv with q | q
        ·exact h3 v q
        exact h6 v q
       rw [bulks_app]
       simp only [List.map_cons, uptoBulkAll, uptoBulk, Rows.uptoBulkAll] at *
       omega
    obtain ⟨cs, k1, k2, k3, k4⟩ := key fs.toList xs 0 (by simpa using hxl) (fun i f hf => hat i f (by simpa using hf)) hc (by
     intro j hj
     refine hw j ?_
     simp only [DataW.weights, hu]
     exact hj)
    rw [List.drop_zero] at k2 k3
    exact ⟨cs, k1, k2, k3, by simp only [uptoBulk, uptoBulkAll, Rows.uptoBulk] at *; omega⟩
   | _ => simp at hc
theorem open_two {S : List TypeId} (hS : closedL P S = true) {ts : List TypeId} {ds : List (DataW H)} (hsz : (DataW.weightsEach P ts ds).all (· ≤ reachBytes) = true) (j : Nat) {t : TypeId} {v : Value} {d : DataW H} {ps : List MemPlace} (hj : ts[j]? = some t) (hd : ds[j]? = some d) (ht : t ∈ S) (h : DataW.Trod enc P w 0 sp held t v d ps) :
    ∃ fuel cs, ShapeL P reachBytes fuel t cs ∧ Rels (cellF w) cs v.cells.toList ∧ Ones v.cells.toList ∧ bulks cs ≤ uptoBulk d := by
 obtain ⟨fuel, h⟩ := h
 obtain ⟨cs, h1, h2, h3, h4⟩ := open_shape2 hS (L := reachBytes) (by decide) fuel t _ _ ht h (fun n hn => by
  have := List.all_eq_true.1 hsz n (DataW.weights_mem_each hj hd n hn)
  simpa using this)
 exact ⟨fuel, cs, h1, h2, h3, h4⟩
end
section
variable {P : Program} {L : Nat}
theorem shapeL_int {fuel : Nat} {t : TypeId} {k : IntKind} {cs : List AV} (ht : P.underlying t = some (.int k)) (h : ShapeL P L fuel t cs) : ∃ x, (k.min ≤ x ∧ x ≤ k.max) ∧ cs = [.val (.int k x)] := by
 cases fuel with
 | zero => unfold ShapeL at h; exact h.elim
 | succ n => unfold ShapeL at h; rw [ht] at h; exact h
theorem shapeL_str {fuel : Nat} {t : TypeId} {cs : List AV} (ht : P.underlying t = some .string) (h : ShapeL P L fuel t cs) : ∃ s : ByteArray, s.size ≤ L ∧ cs = [.val (.string s)] := by
 cases fuel with
 | zero => unfold ShapeL at h; exact h.elim
 | succ n => unfold ShapeL at h; rw [ht] at h; exact h
theorem shapeL_slice {fuel : Nat} {t e : TypeId} {cs : List AV} (ht : P.underlying t = some (.slice e)) (h : ShapeL P L fuel t cs) : ∃ n es, n < fuel ∧ cs = [.seq (P.cellsOf e) es] ∧ es.length ≤ L ∧ ∀ x ∈ es, ShapeL P L n e x := by
 cases fuel with
 | zero => unfold ShapeL at h; exact h.elim
 | succ n =>
  unfold ShapeL at h
  rw [ht] at h
  obtain ⟨es, h1, h3, h2⟩ := h
  exact ⟨n, es, by omega, h1, h3, h2⟩
theorem shapeL_struct {fuel : Nat} {t : TypeId} {fs : Array Field} {cs : List AV} (ht : P.underlying t = some (.struct fs)) (h : ShapeL P L fuel t cs) : ∃ n, n < fuel ∧ ShapeLF P L n fs.toList cs := by
 cases fuel with
 | zero => unfold ShapeL at h; exact h.elim
 | succ n => unfold ShapeL at h; rw [ht] at h; exact ⟨n, by omega, h⟩
theorem pick_all2 {α : Type} {f : α → List AV} {p : α → Prop} : ∀ {es : List (List AV)}, (∀ x ∈ es, ∃ a, x = f a ∧ p a) → ∃ l : List α, es = l.map f ∧ ∀ a ∈ l, p a
 | [], _ => ⟨[], rfl, by simp⟩
 | e :: es, h => by
  obtain ⟨a, ha, hp⟩ := h e (by simp)
  obtain ⟨l, hl, hq⟩ := pick_all2 (fun x hx => h x (by simp [hx]) : ∀ x ∈ es, ∃ a, x = f a ∧ p a)
  exact ⟨a :: l, by rw [ha, hl]; rfl, by simp; exact ⟨hp, hq⟩⟩
end
inductive Pa where
 | mk (k : Int) (s : ByteArray) (n : Int) (ks : List Pa) (p : Int)
mutual
inductive Ex where
 | mk (k : Int) (s : ByteArray) (n : Int) (t : Ty) (ks : List Ex) (al : List Al) (bs : List Bi) (p : Int)
inductive Al where
 | mk (q : Pa) (e : Ex)
inductive Bi where
 | mk (s : ByteArray) (e : Ex) (p : Int)
end
mutual
def Pa.cells : Pa → List AV
 | .mk k s n ks p => [.val (.int .i64 k), .val (.string s), .val (.int .i64 n), .seq 5 (Pa.cellss ks), .val (.int .i64 p)]
def Pa.cellss : List Pa → List (List AV)
 | [] => []
 | t :: ts => t.cells :: Pa.cellss ts
end
mutual
def Ex.cells : Ex → List AV
 | .mk k s n t ks al bs p => .val (.int .i64 k) :: .val (.string s) :: .val (.int .i64 n) :: (t.cells ++ [.seq 11 (Ex.cellss ks), .seq 16 (Al.cellss al), .seq 13 (Bi.cellss bs), .val (.int .i64 p)])
def Ex.cellss : List Ex → List (List AV)
 | [] => []
 | t :: ts => t.cells :: Ex.cellss ts
def Al.cells : Al → List AV
 | .mk q e => q.cells ++ e.cells
def Al.cellss : List Al → List (List AV)
 | [] => []
 | t :: ts => t.cells :: Al.cellss ts
def Bi.cells : Bi → List AV
 | .mk s e p => .val (.string s) :: (e.cells ++ [.val (.int .i64 p)])
def Bi.cellss : List Bi → List (List AV)
 | [] => []
 | t :: ts => t.cells :: Bi.cellss ts
end
theorem Pa.cellss_map : ∀ ts : List Pa, Pa.cellss ts = ts.map Pa.cells
 | [] => by simp [Pa.cellss]
 | t :: ts => by simp [Pa.cellss, Pa.cellss_map ts]
theorem Ex.cellss_map : ∀ ts : List Ex, Ex.cellss ts = ts.map Ex.cells
 | [] => by simp [Ex.cellss]
 | t :: ts => by simp [Ex.cellss, Ex.cellss_map ts]
theorem Al.cellss_map : ∀ ts : List Al, Al.cellss ts = ts.map Al.cells
 | [] => by simp [Al.cellss]
 | t :: ts => by simp [Al.cellss, Al.cellss_map ts]
theorem Bi.cellss_map : ∀ ts : List Bi, Bi.cellss ts = ts.map Bi.cells
 | [] => by simp [Bi.cellss]
 | t :: ts => by simp [Bi.cellss, Bi.cellss_map ts]
theorem Pa.cellss_len (ts : List Pa) : (Pa.cellss ts).length = ts.length := by rw [Pa.cellss_map]; simp
theorem Ex.cellss_len (ts : List Ex) : (Ex.cellss ts).length = ts.length := by rw [Ex.cellss_map]; simp
theorem Al.cellss_len (ts : List Al) : (Al.cellss ts).length = ts.length := by rw [Al.cellss_map]; simp
theorem Bi.cellss_len (ts : List Bi) : (Bi.cellss ts).length = ts.length := by rw [Bi.cellss_map]; simp
theorem Pa.cellss_get {ts : List Pa} {i : Nat} {t : Pa} (h : ts[i]? = some t) : (Pa.cellss ts)[i]? = some t.cells := by rw [Pa.cellss_map]; simp [h]
theorem Ex.cellss_get {ts : List Ex} {i : Nat} {t : Ex} (h : ts[i]? = some t) : (Ex.cellss ts)[i]? = some t.cells := by rw [Ex.cellss_map]; simp [h]
theorem Al.cellss_get {ts : List Al} {i : Nat} {t : Al} (h : ts[i]? = some t) : (Al.cellss ts)[i]? = some t.cells := by rw [Al.cellss_map]; simp [h]
theorem Bi.cellss_get {ts : List Bi} {i : Nat} {t : Bi} (h : ts[i]? = some t) : (Bi.cellss ts)[i]? = some t.cells := by rw [Bi.cellss_map]; simp [h]
def Al.e : Al → Ex | .mk _ e => e
def Al.q : Al → Pa | .mk q _ => q
def Bi.e : Bi → Ex | .mk _ e _ => e
def Bi.s : Bi → ByteArray | .mk s _ _ => s
mutual
def Pa.bare : Pa → Pa
 | .mk k s n ks _ => .mk k s n (Pa.bares ks) 0
def Pa.bares : List Pa → List Pa
 | [] => []
 | t :: ts => t.bare :: Pa.bares ts
end
mutual
def Ex.bare : Ex → Ex
 | .mk k s n t ks al bs _ => .mk k s n t (Ex.bares ks) (Al.bares al) (Bi.bares bs) 0
def Ex.bares : List Ex → List Ex
 | [] => []
 | t :: ts => t.bare :: Ex.bares ts
def Al.bare : Al → Al
 | .mk q e => .mk q.bare e.bare
def Al.bares : List Al → List Al
 | [] => []
 | t :: ts => t.bare :: Al.bares ts
def Bi.bare : Bi → Bi
 | .mk s e _ => .mk s e.bare 0
def Bi.bares : List Bi → List Bi
 | [] => []
 | t :: ts => t.bare :: Bi.bares ts
end
theorem Pa.bares_map : ∀ ts : List Pa, Pa.bares ts = ts.map Pa.bare
 | [] => by simp [Pa.bares]
 | t :: ts => by simp [Pa.bares, Pa.bares_map ts]
theorem Ex.bares_map : ∀ ts : List Ex, Ex.bares ts = ts.map Ex.bare
 | [] => by simp [Ex.bares]
 | t :: ts => by simp [Ex.bares, Ex.bares_map ts]
theorem Al.bares_map : ∀ ts : List Al, Al.bares ts = ts.map Al.bare
 | [] => by simp [Al.bares]
 | t :: ts => by simp [Al.bares, Al.bares_map ts]
theorem Bi.bares_map : ∀ ts : List Bi, Bi.bares ts = ts.map Bi.bare
 | [] => by simp [Bi.bares]
 | t :: ts => by simp [Bi.bares, Bi.bares_map ts]
theorem Pa.bare_iff {k1 k2 n1 n2 p1 p2 : Int} {s1 s2 : ByteArray} {ks1 ks2 : List Pa} : (Pa.mk k1 s1 n1 ks1 p1).bare = (Pa.mk k2 s2 n2 ks2 p2).bare ↔ k1 = k2 ∧ s1 = s2 ∧ n1 = n2 ∧ ks1.map Pa.bare = ks2.map Pa.bare := by
 simp [Pa.bare, Pa.bares_map]
theorem Ex.bare_iff {k1 k2 n1 n2 p1 p2 : Int} {s1 s2 : ByteArray} {t1 t2 : Ty} {ks1 ks2 : List Ex} {al1 al2 : List Al} {bs1 bs2 : List Bi} : (Ex.mk k1 s1 n1 t1 ks1 al1 bs1 p1).bare = (Ex.mk k2 s2 n2 t2 ks2 al2 bs2 p2).bare ↔ k1 = k2 ∧ s1 = s2 ∧ n1 = n2 ∧ t1 = t2 ∧ ks1.map Ex.bare = ks2.map Ex.bare ∧ al1.map Al.bare = al2.map Al.bare ∧ bs1.map Bi.bare = bs2.map Bi.bare := by
 simp [Ex.bare, Ex.bares_map, Al.bares_map, Bi.bares_map]
theorem Al.bare_iff {q1 q2 : Pa} {e1 e2 : Ex} : (Al.mk q1 e1).bare = (Al.mk q2 e2).bare ↔ q1.bare = q2.bare ∧ e1.bare = e2.bare := by simp [Al.bare]
theorem Bi.bare_iff {s1 s2 : ByteArray} {e1 e2 : Ex} {p1 p2 : Int} : (Bi.mk s1 e1 p1).bare = (Bi.mk s2 e2 p2).bare ↔ s1 = s2 ∧ e1.bare = e2.bare := by simp [Bi.bare]
theorem Pa.lt_kid {x : Pa} {k n p : Int} {s : ByteArray} {ks : List Pa} (h : x ∈ ks) : SizeOf.sizeOf x < SizeOf.sizeOf (Pa.mk k s n ks p) := by
 have := List.sizeOf_lt_of_mem h
 simp; omega
section
variable {x : Ex} {a : Al} {b : Bi} {k n p : Int} {s : ByteArray} {t : Ty} {ks : List Ex} {al : List Al} {bs : List Bi}
theorem Ex.lt_kid (h : x ∈ ks) : SizeOf.sizeOf x < SizeOf.sizeOf (Ex.mk k s n t ks al bs p) := by
 have := List.sizeOf_lt_of_mem h
 simp; omega
theorem Ex.lt_alt (h : a ∈ al) : SizeOf.sizeOf a < SizeOf.sizeOf (Ex.mk k s n t ks al bs p) := by
 have := List.sizeOf_lt_of_mem h
 simp; omega
theorem Ex.lt_bind (h : b ∈ bs) : SizeOf.sizeOf b < SizeOf.sizeOf (Ex.mk k s n t ks al bs p) := by
 have := List.sizeOf_lt_of_mem h
 simp; omega
theorem Al.lt_e (a : Al) : SizeOf.sizeOf a.e < SizeOf.sizeOf a := by cases a; simp [Al.e]; omega
theorem Bi.lt_e (a : Bi) : SizeOf.sizeOf a.e < SizeOf.sizeOf a := by cases a; simp [Bi.e]; omega
end
def Ex.parts : Ex → List Ex
 | .mk k _ _ _ ks al bs _ => (if k = 7 then [] else ks) ++ bs.map Bi.e ++ (if k = 7 then ks else []) ++ al.map Al.e
theorem Ex.lt_part {e x : Ex} (h : x ∈ e.parts) : SizeOf.sizeOf x < SizeOf.sizeOf e := by
 obtain ⟨k, s, n, t, ks, al, bs, p⟩ := e
 simp only [Ex.parts, List.mem_append, List.mem_map] at h
 rcases h with ((h | ⟨b, hb, rfl⟩) | h) | ⟨a, ha, rfl⟩
 ·split at h
  ·simp at h
  exact Ex.lt_kid h
 ·exact Nat.lt_trans (Bi.lt_e b) (Ex.lt_bind hb)
 ·split at h
  ·exact Ex.lt_kid h
  simp at h
 exact Nat.lt_trans (Al.lt_e a) (Ex.lt_alt ha)
def Ex.sz (e : Ex) : Nat := 1 + (e.parts.attach.map fun x => Ex.sz x.1).sum
termination_by SizeOf.sizeOf e
decreasing_by exact Ex.lt_part x.2
theorem sum_take {l : List Nat} {i x : Nat} (h : l[i]? = some x) : (l.take (i + 1)).sum = (l.take i).sum + x := by
 rw [List.take_add_one, h]; simp
theorem sum_take_le (l : List Nat) (i : Nat) : (l.take i).sum ≤ l.sum := by
 have := congrArg List.sum (List.take_append_drop i l)
 rw [List.sum_append] at this; omega
theorem upto_map {α β : Type} (f : α → β) {xs ys : List α} {i : Nat} {x y : α} (h : Upto (xs.map f) (ys.map f) i) (hx : xs[i]? = some x) (hy : ys[i]? = some y) (e : f x = f y) : Upto (xs.map f) (ys.map f) (i + 1) :=
 h.succ (x := f x) (y := f y) (by simp [hx]) (by simp [hy]) e
theorem map_ne {α β : Type} (f : α → β) {xs ys : List α} {i : Nat} {x y : α} (hx : xs[i]? = some x) (hy : ys[i]? = some y) (e : ¬ f x = f y) : ¬ xs.map f = ys.map f := fun q => e (by
 have : (xs.map f)[i]? = (ys.map f)[i]? := by rw [q]
 simpa [hx, hy] using this)
theorem map_len_ne {α β : Type} (f : α → β) {xs ys : List α} (h : ¬ xs.length = ys.length) : ¬ xs.map f = ys.map f := fun q => h (by simpa using congrArg List.length q)
mutual
inductive Co where
 | mk (k : Int) (s : ByteArray) (n : Int) (t : Ty) (ts : List Ty) (ks : List Co) (al : List Ca) (bs : List Cb)
inductive Ca where
 | mk (q : Pa) (e : Co)
inductive Cb where
 | mk (s : ByteArray) (vs : List ByteArray) (t : Ty) (e : Co)
end
mutual
def Co.cells : Co → List AV
 | .mk k s n t ts ks al bs => .val (.int .i64 k) :: .val (.string s) :: .val (.int .i64 n) :: (t.cells ++ [.seq 4 (Ty.cellss ts), .seq 11 (Co.cellss ks), .seq 16 (Ca.cellss al), .seq 17 (Cb.cellss bs)])
def Co.cellss : List Co → List (List AV)
 | [] => []
 | t :: ts => t.cells :: Co.cellss ts
def Ca.cells : Ca → List AV
 | .mk q e => q.cells ++ e.cells
def Ca.cellss : List Ca → List (List AV)
 | [] => []
 | t :: ts => t.cells :: Ca.cellss ts
def Cb.cells : Cb → List AV
 | .mk s vs t e => .val (.string s) :: .seq 1 (strs vs) :: (t.cells ++ e.cells)
def Cb.cellss : List Cb → List (List AV)
 | [] => []
 | t :: ts => t.cells :: Cb.cellss ts
end
theorem Co.cellss_map : ∀ ts : List Co, Co.cellss ts = ts.map Co.cells
 | [] => by simp [Co.cellss]
 | t :: ts => by simp [Co.cellss, Co.cellss_map ts]
theorem Co.cellss_len (ts : List Co) : (Co.cellss ts).length = ts.length := by rw [Co.cellss_map]; simp
theorem Co.cellss_get {ts : List Co} {i : Nat} {t : Co} (h : ts[i]? = some t) : (Co.cellss ts)[i]? = some t.cells := by rw [Co.cellss_map]; simp [h]
theorem Co.cellss_app (a b : List Co) : Co.cellss (a ++ b) = Co.cellss a ++ Co.cellss b := by simp [Co.cellss_map]
theorem Ca.cellss_map : ∀ ts : List Ca, Ca.cellss ts = ts.map Ca.cells
 | [] => by simp [Ca.cellss]
 | t :: ts => by simp [Ca.cellss, Ca.cellss_map ts]
theorem Ca.cellss_len (ts : List Ca) : (Ca.cellss ts).length = ts.length := by rw [Ca.cellss_map]; simp
theorem Ca.cellss_get {ts : List Ca} {i : Nat} {t : Ca} (h : ts[i]? = some t) : (Ca.cellss ts)[i]? = some t.cells := by rw [Ca.cellss_map]; simp [h]
theorem Ca.cellss_app (a b : List Ca) : Ca.cellss (a ++ b) = Ca.cellss a ++ Ca.cellss b := by simp [Ca.cellss_map]
theorem Cb.cellss_map : ∀ ts : List Cb, Cb.cellss ts = ts.map Cb.cells
 | [] => by simp [Cb.cellss]
 | t :: ts => by simp [Cb.cellss, Cb.cellss_map ts]
theorem Cb.cellss_len (ts : List Cb) : (Cb.cellss ts).length = ts.length := by rw [Cb.cellss_map]; simp
theorem Cb.cellss_get {ts : List Cb} {i : Nat} {t : Cb} (h : ts[i]? = some t) : (Cb.cellss ts)[i]? = some t.cells := by rw [Cb.cellss_map]; simp [h]
theorem Cb.cellss_app (a b : List Cb) : Cb.cellss (a ++ b) = Cb.cellss a ++ Cb.cellss b := by simp [Cb.cellss_map]
def Ca.e : Ca → Co | .mk _ e => e
def Ca.q : Ca → Pa | .mk q _ => q
def Cb.s : Cb → ByteArray | .mk s _ _ _ => s
def Cb.vs : Cb → List ByteArray | .mk _ vs _ _ => vs
def Cb.t : Cb → Ty | .mk _ _ t _ => t
def Cb.e : Cb → Co | .mk _ _ _ e => e
def Co.k : Co → Int | .mk k _ _ _ _ _ _ _ => k
def Co.s : Co → ByteArray | .mk _ s _ _ _ _ _ _ => s
def Co.n : Co → Int | .mk _ _ n _ _ _ _ _ => n
def Co.t : Co → Ty | .mk _ _ _ t _ _ _ _ => t
def Co.ts : Co → List Ty | .mk _ _ _ _ ts _ _ _ => ts
def Co.ks : Co → List Co | .mk _ _ _ _ _ ks _ _ => ks
def Co.al : Co → List Ca | .mk _ _ _ _ _ _ al _ => al
def Co.bs : Co → List Cb | .mk _ _ _ _ _ _ _ bs => bs
mutual
def Co.bare : Co → Co
 | .mk k s n t ts ks al bs => .mk k s n t ts (Co.bares ks) (Ca.bares al) (Cb.bares bs)
def Co.bares : List Co → List Co
 | [] => []
 | t :: ts => t.bare :: Co.bares ts
def Ca.bare : Ca → Ca
 | .mk q e => .mk q.bare e.bare
def Ca.bares : List Ca → List Ca
 | [] => []
 | t :: ts => t.bare :: Ca.bares ts
def Cb.bare : Cb → Cb
 | .mk s vs t e => .mk s vs t e.bare
def Cb.bares : List Cb → List Cb
 | [] => []
 | t :: ts => t.bare :: Cb.bares ts
end
theorem Co.bares_map : ∀ ts : List Co, Co.bares ts = ts.map Co.bare
 | [] => by simp [Co.bares]
 | t :: ts => by simp [Co.bares, Co.bares_map ts]
theorem Ca.bares_map : ∀ ts : List Ca, Ca.bares ts = ts.map Ca.bare
 | [] => by simp [Ca.bares]
 | t :: ts => by simp [Ca.bares, Ca.bares_map ts]
theorem Cb.bares_map : ∀ ts : List Cb, Cb.bares ts = ts.map Cb.bare
 | [] => by simp [Cb.bares]
 | t :: ts => by simp [Cb.bares, Cb.bares_map ts]
theorem Co.bare_iff {k1 k2 n1 n2 : Int} {s1 s2 : ByteArray} {t1 t2 : Ty} {ts1 ts2 : List Ty} {ks1 ks2 : List Co} {al1 al2 : List Ca} {bs1 bs2 : List Cb} : (Co.mk k1 s1 n1 t1 ts1 ks1 al1 bs1).bare = (Co.mk k2 s2 n2 t2 ts2 ks2 al2 bs2).bare ↔ k1 = k2 ∧ s1 = s2 ∧ n1 = n2 ∧ t1 = t2 ∧ ts1 = ts2 ∧ ks1.map Co.bare = ks2.map Co.bare ∧ al1.map Ca.bare = al2.map Ca.bare ∧ bs1.map Cb.bare = bs2.map Cb.bare := by
 simp [Co.bare, Co.bares_map, Ca.bares_map, Cb.bares_map]
theorem Ca.bare_iff {q1 q2 : Pa} {e1 e2 : Co} : (Ca.mk q1 e1).bare = (Ca.mk q2 e2).bare ↔ q1.bare = q2.bare ∧ e1.bare = e2.bare := by simp [Ca.bare]
theorem Cb.bare_iff {s1 s2 : ByteArray} {v1 v2 : List ByteArray} {t1 t2 : Ty} {e1 e2 : Co} : (Cb.mk s1 v1 t1 e1).bare = (Cb.mk s2 v2 t2 e2).bare ↔ s1 = s2 ∧ v1 = v2 ∧ t1 = t2 ∧ e1.bare = e2.bare := by simp [Cb.bare]
section
variable {x : Co} {a : Ca} {b : Cb} {k n : Int} {s : ByteArray} {t : Ty} {ts : List Ty} {ks : List Co} {al : List Ca} {bs : List Cb}
theorem Co.lt_kid (h : x ∈ ks) : SizeOf.sizeOf x < SizeOf.sizeOf (Co.mk k s n t ts ks al bs) := by
 have := List.sizeOf_lt_of_mem h
 simp; omega
theorem Co.lt_alt (h : a ∈ al) : SizeOf.sizeOf a < SizeOf.sizeOf (Co.mk k s n t ts ks al bs) := by
 have := List.sizeOf_lt_of_mem h
 simp; omega
theorem Co.lt_bind (h : b ∈ bs) : SizeOf.sizeOf b < SizeOf.sizeOf (Co.mk k s n t ts ks al bs) := by
 have := List.sizeOf_lt_of_mem h
 simp; omega
theorem Ca.lt_e (a : Ca) : SizeOf.sizeOf a.e < SizeOf.sizeOf a := by cases a; simp [Ca.e]; omega
theorem Cb.lt_e (a : Cb) : SizeOf.sizeOf a.e < SizeOf.sizeOf a := by cases a; simp [Cb.e]; omega
end
mutual
def Co.size : Co → Nat
 | .mk _ _ _ _ _ ks al bs => 1 + Co.sizes ks + Ca.sizes al + Cb.sizes bs
def Co.sizes : List Co → Nat
 | [] => 0
 | t :: ts => t.size + Co.sizes ts
def Ca.size : Ca → Nat
 | .mk _ e => e.size
def Ca.sizes : List Ca → Nat
 | [] => 0
 | t :: ts => t.size + Ca.sizes ts
def Cb.size : Cb → Nat
 | .mk _ _ _ e => e.size
def Cb.sizes : List Cb → Nat
 | [] => 0
 | t :: ts => t.size + Cb.sizes ts
end
mutual
def Co.all : Co → List Co
 | .mk k s n t ts ks al bs => .mk k s n t ts ks al bs :: (Co.alls ks ++ (Ca.alls al ++ Cb.alls bs))
def Co.alls : List Co → List Co
 | [] => []
 | t :: ts => t.all ++ Co.alls ts
def Ca.all : Ca → List Co
 | .mk _ e => e.all
def Ca.alls : List Ca → List Co
 | [] => []
 | t :: ts => t.all ++ Ca.alls ts
def Cb.all : Cb → List Co
 | .mk _ _ _ e => e.all
def Cb.alls : List Cb → List Co
 | [] => []
 | t :: ts => t.all ++ Cb.alls ts
end
mutual
theorem Co.all_len : ∀ e : Co, e.all.length = e.size
 | .mk k s n t ts ks al bs => by rw [Co.all, Co.size, List.length_cons, List.length_append, List.length_append, Co.alls_len ks, Ca.alls_len al, Cb.alls_len bs]; omega
theorem Co.alls_len : ∀ l : List Co, (Co.alls l).length = Co.sizes l
 | [] => rfl
 | t :: ts => by rw [Co.alls, Co.sizes, List.length_append, Co.all_len t, Co.alls_len ts]
theorem Ca.all_len : ∀ e : Ca, e.all.length = e.size
 | .mk q e => by rw [Ca.all, Ca.size, Co.all_len e]
theorem Ca.alls_len : ∀ l : List Ca, (Ca.alls l).length = Ca.sizes l
 | [] => rfl
 | t :: ts => by rw [Ca.alls, Ca.sizes, List.length_append, Ca.all_len t, Ca.alls_len ts]
theorem Cb.all_len : ∀ e : Cb, e.all.length = e.size
 | .mk s vs t e => by rw [Cb.all, Cb.size, Co.all_len e]
theorem Cb.alls_len : ∀ l : List Cb, (Cb.alls l).length = Cb.sizes l
 | [] => rfl
 | t :: ts => by rw [Cb.alls, Cb.sizes, List.length_append, Cb.all_len t, Cb.alls_len ts]
end
theorem Co.size_mem : ∀ {l : List Co} {x : Co}, x ∈ l → x.size ≤ Co.sizes l
 | y :: l, x, h => by
  rw [Co.sizes]
  rcases List.mem_cons.1 h with rfl | h
  ·omega
  have := Co.size_mem h; omega
theorem Ca.size_mem : ∀ {l : List Ca} {x : Ca}, x ∈ l → x.size ≤ Ca.sizes l
 | y :: l, x, h => by
  rw [Ca.sizes]
  rcases List.mem_cons.1 h with rfl | h
  ·omega
  have := Ca.size_mem h; omega
theorem Cb.size_mem : ∀ {l : List Cb} {x : Cb}, x ∈ l → x.size ≤ Cb.sizes l
 | y :: l, x, h => by
  rw [Cb.sizes]
  rcases List.mem_cons.1 h with rfl | h
  ·omega
  have := Cb.size_mem h; omega
abbrev Txt := ByteArray
mutual
def Pa.names : Pa → List Txt
 | .mk k s _ ks _ => (if k = 2 then [s] else []) ++ Pa.namess ks
def Pa.namess : List Pa → List Txt
 | [] => []
 | t :: ts => t.names ++ Pa.namess ts
end
mutual
def Pa.size : Pa → Nat
 | .mk _ _ _ ks _ => 1 + Pa.sizes ks
def Pa.sizes : List Pa → Nat
 | [] => 0
 | t :: ts => t.size + Pa.sizes ts
end
theorem Pa.sizes_map : ∀ ts : List Pa, Pa.sizes ts = (ts.map Pa.size).sum
 | [] => by simp [Pa.sizes]
 | t :: ts => by simp [Pa.sizes, Pa.sizes_map ts]
theorem Pa.sizes_take {ts : List Pa} {i : Nat} {x : Pa} (h : ts[i]? = some x) : Pa.sizes (ts.take i) + x.size ≤ Pa.sizes ts := by
 have h1 : (ts.map Pa.size)[i]? = some x.size := by simp [h]
 have h2 := sum_take h1
 have h3 := sum_take_le (ts.map Pa.size) (i + 1)
 rw [Pa.sizes_map, Pa.sizes_map, List.map_take]; omega
mutual
def Ex.w : Ex → Nat
 | .mk _ _ _ _ ks al bs _ => 1 + Ex.ws ks + Al.ws al + Bi.ws bs
def Ex.ws : List Ex → Nat
 | [] => 0
 | t :: ts => t.w + Ex.ws ts
def Al.w : Al → Nat
 | .mk q e => q.size + e.w
def Al.ws : List Al → Nat
 | [] => 0
 | t :: ts => t.w + Al.ws ts
def Bi.w : Bi → Nat
 | .mk _ e _ => 1 + e.w
def Bi.ws : List Bi → Nat
 | [] => 0
 | t :: ts => t.w + Bi.ws ts
end
abbrev Bi.names (bs : List Bi) : List Txt := bs.map Bi.s
def Ty.kn : Ty → Nat | .mk _ _ _ ks => ks.length
def Pa.kn : Pa → Nat | .mk _ _ _ ks _ => ks.length
mutual
def Ex.full : Ex → Nat
 | .mk _ _ _ t ks al bs _ => 1 + t.kn + Ex.fulls ks + Bi.fulls bs + Al.fulls al
def Ex.fulls : List Ex → Nat
 | [] => 0
 | x :: xs => x.full + Ex.fulls xs
def Bi.full : Bi → Nat
 | .mk _ e _ => 1 + e.full
def Bi.fulls : List Bi → Nat
 | [] => 0
 | x :: xs => x.full + Bi.fulls xs
def Al.full : Al → Nat
 | .mk q e => 1 + e.full + q.kn
def Al.fulls : List Al → Nat
 | [] => 0
 | x :: xs => x.full + Al.fulls xs
end
mutual
def Ex.Lim : Ex → Prop
 | .mk _ _ _ t ks al bs _ => t.kn ≤ 140737488355328 ∧ Ex.Lims ks ∧ Bi.Lims bs ∧ Al.Lims al
def Ex.Lims : List Ex → Prop
 | [] => True
 | x :: xs => x.Lim ∧ Ex.Lims xs
def Bi.Lim : Bi → Prop
 | .mk _ e _ => e.Lim
def Bi.Lims : List Bi → Prop
 | [] => True
 | x :: xs => x.Lim ∧ Bi.Lims xs
def Al.Lim : Al → Prop
 | .mk q e => e.Lim ∧ q.kn ≤ 140737488355328
def Al.Lims : List Al → Prop
 | [] => True
 | x :: xs => x.Lim ∧ Al.Lims xs
end
theorem Ex.lims_iff : ∀ l : List Ex, Ex.Lims l ↔ ∀ x ∈ l, x.Lim
 | [] => by simp [Ex.Lims]
 | x :: l => by simp [Ex.Lims, Ex.lims_iff l]
theorem Bi.lims_iff : ∀ l : List Bi, Bi.Lims l ↔ ∀ x ∈ l, x.Lim
 | [] => by simp [Bi.Lims]
 | x :: l => by simp [Bi.Lims, Bi.lims_iff l]
theorem Al.lims_iff : ∀ l : List Al, Al.Lims l ↔ ∀ x ∈ l, x.Lim
 | [] => by simp [Al.Lims]
 | x :: l => by simp [Al.Lims, Al.lims_iff l]
mutual
def Ex.cnt : Ex → Int → Int
 | .mk _ _ _ t ks al bs _, m => Al.cnts al m (Bi.cnts bs m (Ex.cnts ks m (1 + t.kn)))
def Ex.cnts : List Ex → Int → Int → Int
 | [], _, n => n
 | x :: xs, m, n => if n < m then Ex.cnts xs m (n + x.cnt (m - n)) else n
def Bi.cnt : Bi → Int → Int
 | .mk _ e _, m => 1 + e.cnt m
def Bi.cnts : List Bi → Int → Int → Int
 | [], _, n => n
 | x :: xs, m, n => if n < m then Bi.cnts xs m (n + x.cnt (m - n)) else n
def Al.cnt : Al → Int → Int
 | .mk q e, m => 1 + e.cnt m + q.kn
def Al.cnts : List Al → Int → Int → Int
 | [], _, n => n
 | x :: xs, m, n => if n < m then Al.cnts xs m (n + x.cnt (m - n)) else n
end
theorem Ex.cnts_end {l : List Ex} {i : Nat} {m n : Int} (h : l.length ≤ i ∨ m ≤ n) : Ex.cnts (l.drop i) m n = n := by
 rcases h with h | h
 ·rw [List.drop_eq_nil_of_le h, Ex.cnts]
 cases l.drop i with
 | nil => rw [Ex.cnts]
 | cons x l => rw [Ex.cnts, if_neg (by omega)]
theorem Bi.cnts_end {l : List Bi} {i : Nat} {m n : Int} (h : l.length ≤ i ∨ m ≤ n) : Bi.cnts (l.drop i) m n = n := by
 rcases h with h | h
 ·rw [List.drop_eq_nil_of_le h, Bi.cnts]
 cases l.drop i with
 | nil => rw [Bi.cnts]
 | cons x l => rw [Bi.cnts, if_neg (by omega)]
theorem Al.cnts_end {l : List Al} {i : Nat} {m n : Int} (h : l.length ≤ i ∨ m ≤ n) : Al.cnts (l.drop i) m n = n := by
 rcases h with h | h
 ·rw [List.drop_eq_nil_of_le h, Al.cnts]
 cases l.drop i with
 | nil => rw [Al.cnts]
 | cons x l => rw [Al.cnts, if_neg (by omega)]
theorem drop_get {α : Type} {l : List α} {i : Nat} {x : α} (h : l[i]? = some x) : l.drop i = x :: l.drop (i + 1) := by
 obtain ⟨hi, rfl⟩ := List.getElem?_eq_some_iff.1 h
 exact List.drop_eq_getElem_cons hi
mutual
theorem Ex.cnt_b : ∀ (e : Ex) (m : Int), e.Lim → 1 ≤ m → m ≤ 2000 → 1 ≤ e.cnt m ∧ e.cnt m ≤ 562949953421312 * m ∧ e.cnt m ≤ e.full ∧ (e.cnt m < m → e.cnt m = e.full)
 | .mk k s n t ks al bs p, m => by
  intro hl h1 h2
  rw [Ex.Lim] at hl
  obtain ⟨l1, l2, l3, l4⟩ := hl
  rw [Ex.cnt, Ex.full]
  obtain ⟨a1, a2, a3, a4⟩ := Ex.cnts_b ks m (1 + t.kn) l2 h1 h2 (by omega) (by omega)
  generalize Ex.cnts ks m (1 + t.kn) = n1 at *
  obtain ⟨b1, b2, b3, b4⟩ := Bi.cnts_b bs m n1 l3 h1 h2 (by omega) (by omega)
  generalize Bi.cnts bs m n1 = n2 at *
  obtain ⟨c1, c2, c3, c4⟩ := Al.cnts_b al m n2 l4 h1 h2 (by omega) (by omega)
  generalize Al.cnts al m n2 = n3 at *
  omega
theorem Ex.cnts_b : ∀ (l : List Ex) (m n : Int), Ex.Lims l → 1 ≤ m → m ≤ 2000 → 1 ≤ n → n ≤ 562949953421312 * m → n ≤ Ex.cnts l m n ∧ Ex.cnts l m n ≤ 562949953421312 * m ∧ Ex.cnts l m n ≤ n + Ex.fulls l ∧ (Ex.cnts l m n < m → Ex.cnts l m n = n + Ex.fulls l)
 | [], m, n => by intro _ _ _ _ _; simp only [Ex.cnts, Ex.fulls]; omega
 | x :: xs, m, n => by
  intro hl h1 h2 h3 h4
  rw [Ex.Lims] at hl
  rw [Ex.cnts, Ex.fulls]
  split
  ·rename_i h
   obtain ⟨a1, a2, a3, a4⟩ := Ex.cnt_b x (m - n) hl.1 (by omega) (by omega)
   generalize x.cnt (m - n) = c at *
   obtain ⟨b1, b2, b3, b4⟩ := Ex.cnts_b xs m (n + c) hl.2 h1 h2 (by omega) (by omega)
   generalize Ex.cnts xs m (n + c) = r at *
   omega
  omega
theorem Bi.cnt_b : ∀ (e : Bi) (m : Int), e.Lim → 1 ≤ m → m ≤ 2000 → 2 ≤ e.cnt m ∧ e.cnt m ≤ 1 + 562949953421312 * m ∧ e.cnt m ≤ e.full ∧ (e.cnt m < m → e.cnt m = e.full)
 | .mk s e p, m => by
  intro hl h1 h2
  rw [Bi.Lim] at hl
  rw [Bi.cnt, Bi.full]
  have := Ex.cnt_b e m hl h1 h2
  omega
theorem Bi.cnts_b : ∀ (l : List Bi) (m n : Int), Bi.Lims l → 1 ≤ m → m ≤ 2000 → 1 ≤ n → n ≤ 562949953421312 * m → n ≤ Bi.cnts l m n ∧ Bi.cnts l m n ≤ 562949953421312 * m ∧ Bi.cnts l m n ≤ n + Bi.fulls l ∧ (Bi.cnts l m n < m → Bi.cnts l m n = n + Bi.fulls l)
 | [], m, n => by intro _ _ _ _ _; simp only [Bi.cnts, Bi.fulls]; omega
 | x :: xs, m, n => by
  intro hl h1 h2 h3 h4
  rw [Bi.Lims] at hl
  rw [Bi.cnts, Bi.fulls]
  split
  ·rename_i h
   obtain ⟨a1, a2, a3, a4⟩ := Bi.cnt_b x (m - n) hl.1 (by omega) (by omega)
   generalize x.cnt (m - n) = c at *
   obtain ⟨b1, b2, b3, b4⟩ := Bi.cnts_b xs m (n + c) hl.2 h1 h2 (by omega) (by omega)
   generalize Bi.cnts xs m (n + c) = r at *
   omega
  omega
theorem Al.cnt_b : ∀ (e : Al) (m : Int), e.Lim → 1 ≤ m → m ≤ 2000 → 2 ≤ e.cnt m ∧ e.cnt m ≤ 1 + 562949953421312 * m + 140737488355328 ∧ e.cnt m ≤ e.full ∧ (e.cnt m < m → e.cnt m = e.full)
 | .mk q e, m => by
  intro hl h1 h2
  rw [Al.Lim] at hl
  rw [Al.cnt, Al.full]
  have := Ex.cnt_b e m hl.1 h1 h2
  omega
theorem Al.cnts_b : ∀ (l : List Al) (m n : Int), Al.Lims l → 1 ≤ m → m ≤ 2000 → 1 ≤ n → n ≤ 562949953421312 * m → n ≤ Al.cnts l m n ∧ Al.cnts l m n ≤ 562949953421312 * m ∧ Al.cnts l m n ≤ n + Al.fulls l ∧ (Al.cnts l m n < m → Al.cnts l m n = n + Al.fulls l)
 | [], m, n => by intro _ _ _ _ _; simp only [Al.cnts, Al.fulls]; omega
 | x :: xs, m, n => by
  intro hl h1 h2 h3 h4
  rw [Al.Lims] at hl
  rw [Al.cnts, Al.fulls]
  split
  ·rename_i h
   obtain ⟨a1, a2, a3, a4⟩ := Al.cnt_b x (m - n) hl.1 (by omega) (by omega)
   generalize x.cnt (m - n) = c at *
   obtain ⟨b1, b2, b3, b4⟩ := Al.cnts_b xs m (n + c) hl.2 h1 h2 (by omega) (by omega)
   generalize Al.cnts xs m (n + c) = r at *
   omega
  omega
end
theorem Ex.cellss_app (a b : List Ex) : Ex.cellss (a ++ b) = Ex.cellss a ++ Ex.cellss b := by simp [Ex.cellss_map]
mutual
def Co.full : Co → Nat
 | .mk _ _ _ _ ts ks al bs => 1 + ts.length + Co.fulls ks + Ca.fulls al + Cb.fulls bs
def Co.fulls : List Co → Nat
 | [] => 0
 | x :: xs => x.full + Co.fulls xs
def Ca.full : Ca → Nat
 | .mk q e => 1 + e.full + q.kn
def Ca.fulls : List Ca → Nat
 | [] => 0
 | x :: xs => x.full + Ca.fulls xs
def Cb.full : Cb → Nat
 | .mk _ vs _ e => 1 + e.full + vs.length
def Cb.fulls : List Cb → Nat
 | [] => 0
 | x :: xs => x.full + Cb.fulls xs
end
mutual
def Co.Lim : Co → Prop
 | .mk _ _ _ _ ts ks al bs => ts.length ≤ 140737488355328 ∧ Co.Lims ks ∧ Ca.Lims al ∧ Cb.Lims bs
def Co.Lims : List Co → Prop
 | [] => True
 | x :: xs => x.Lim ∧ Co.Lims xs
def Ca.Lim : Ca → Prop
 | .mk q e => e.Lim ∧ q.kn ≤ 140737488355328
def Ca.Lims : List Ca → Prop
 | [] => True
 | x :: xs => x.Lim ∧ Ca.Lims xs
def Cb.Lim : Cb → Prop
 | .mk _ vs _ e => e.Lim ∧ vs.length ≤ 140737488355328
def Cb.Lims : List Cb → Prop
 | [] => True
 | x :: xs => x.Lim ∧ Cb.Lims xs
end
mutual
def Co.Ok : Co → Prop
 | .mk _ _ _ t ts ks al bs => t.small 60 = true ∧ (ts.all fun t => t.small 60) = true ∧ Co.Oks ks ∧ Ca.Oks al ∧ Cb.Oks bs
def Co.Oks : List Co → Prop
 | [] => True
 | x :: xs => x.Ok ∧ Co.Oks xs
def Ca.Ok : Ca → Prop
 | .mk _ e => e.Ok
def Ca.Oks : List Ca → Prop
 | [] => True
 | x :: xs => x.Ok ∧ Ca.Oks xs
def Cb.Ok : Cb → Prop
 | .mk _ _ t e => t.small 60 = true ∧ e.Ok
def Cb.Oks : List Cb → Prop
 | [] => True
 | x :: xs => x.Ok ∧ Cb.Oks xs
end
theorem Co.lims_iff : ∀ l : List Co, Co.Lims l ↔ ∀ x ∈ l, x.Lim
 | [] => by simp [Co.Lims]
 | x :: l => by simp [Co.Lims, Co.lims_iff l]
theorem Ca.lims_iff : ∀ l : List Ca, Ca.Lims l ↔ ∀ x ∈ l, x.Lim
 | [] => by simp [Ca.Lims]
 | x :: l => by simp [Ca.Lims, Ca.lims_iff l]
theorem Cb.lims_iff : ∀ l : List Cb, Cb.Lims l ↔ ∀ x ∈ l, x.Lim
 | [] => by simp [Cb.Lims]
 | x :: l => by simp [Cb.Lims, Cb.lims_iff l]
mutual
def Co.cnt : Co → Int → Int
 | .mk _ _ _ t ts ks al bs, m => if t.small 60 = false then m else if (ts.all fun t => t.small 60) = false then m else Cb.cnts bs m (Ca.cnts al m (Co.cnts ks m (1 + ts.length)))
def Co.cnts : List Co → Int → Int → Int
 | [], _, n => n
 | x :: xs, m, n => if n < m then Co.cnts xs m (n + x.cnt (m - n)) else n
def Ca.cnt : Ca → Int → Int
 | .mk q e, m => 1 + e.cnt m + q.kn
def Ca.cnts : List Ca → Int → Int → Int
 | [], _, n => n
 | x :: xs, m, n => if n < m then Ca.cnts xs m (n + x.cnt (m - n)) else n
def Cb.cnt : Cb → Int → Int
 | .mk _ vs _ e, m => 1 + e.cnt m + vs.length
def Cb.cnts : List Cb → Int → Int → Int
 | [], _, n => n
 | x :: xs, m, n => if n < m then (if x.t.small 60 = false then m else Cb.cnts xs m (n + x.cnt (m - n))) else n
end
theorem Co.cnts_end {l : List Co} {i : Nat} {m n : Int} (h : ¬ (i < l.length ∧ n < m)) : Co.cnts (l.drop i) m n = n := by
 by_cases q : i < l.length
 ·cases l.drop i with
  | nil => rw [Co.cnts]
  | cons x l => rw [Co.cnts, if_neg (by omega)]
 rw [List.drop_eq_nil_of_le (by omega), Co.cnts]
theorem Ca.cnts_end {l : List Ca} {i : Nat} {m n : Int} (h : ¬ (i < l.length ∧ n < m)) : Ca.cnts (l.drop i) m n = n := by
 by_cases q : i < l.length
 ·cases l.drop i with
  | nil => rw [Ca.cnts]
  | cons x l => rw [Ca.cnts, if_neg (by omega)]
 rw [List.drop_eq_nil_of_le (by omega), Ca.cnts]
theorem Cb.cnts_end {l : List Cb} {i : Nat} {m n : Int} (h : ¬ (i < l.length ∧ n < m)) : Cb.cnts (l.drop i) m n = n := by
 by_cases q : i < l.length
 ·cases l.drop i with
  | nil => rw [Cb.cnts]
  | cons x l => rw [Cb.cnts, if_neg (by omega)]
 rw [List.drop_eq_nil_of_le (by omega), Cb.cnts]
mutual
theorem Co.cnt_b : ∀ (e : Co) (m : Int), e.Lim → 1 ≤ m → m ≤ 2000 → 1 ≤ e.cnt m ∧ e.cnt m ≤ 562949953421312 * m ∧ (e.cnt m < m → e.cnt m = e.full ∧ e.Ok)
 | .mk k s n t ts ks al bs, m => by
  intro hl h1 h2
  rw [Co.Lim] at hl
  obtain ⟨l1, l2, l3, l4⟩ := hl
  rw [Co.cnt, Co.full, Co.Ok]
  by_cases q : t.small 60 = false
  ·rw [if_pos q]
   exact ⟨h1, by omega, fun h => absurd h (by omega)⟩
  rw [if_neg q]
  by_cases q2 : (ts.all fun t => t.small 60) = false
  ·rw [if_pos q2]
   exact ⟨h1, by omega, fun h => absurd h (by omega)⟩
  rw [if_neg q2]
  have q : t.small 60 = true := by simpa using q
  have q2 : (ts.all fun t => t.small 60) = true := by simpa using q2
  obtain ⟨a1, a2, a4⟩ := Co.cnts_b ks m (1 + ts.length) l2 h1 h2 (by omega) (by omega)
  generalize Co.cnts ks m (1 + ts.length) = n1 at *
  obtain ⟨b1, b2, b4⟩ := Ca.cnts_b al m n1 l3 h1 h2 (by omega) (by omega)
  generalize Ca.cnts al m n1 = n2 at *
  obtain ⟨c1, c0, c2, c4⟩ := Cb.cnts_b bs m n2 l4 h1 h2 (by omega) (by omega)
  generalize Cb.cnts bs m n2 = n3 at *
  refine ⟨c0, c2, fun h => ?_⟩
  obtain ⟨_, c5, c6⟩ := c4 h
  obtain ⟨b5, b6⟩ := b4 (by omega)
  obtain ⟨a5, a6⟩ := a4 (by omega)
  exact ⟨by omega, q, q2, a6, b6, c6⟩
theorem Co.cnts_b : ∀ (l : List Co) (m n : Int), Co.Lims l → 1 ≤ m → m ≤ 2000 → 1 ≤ n → n ≤ 562949953421312 * m → n ≤ Co.cnts l m n ∧ Co.cnts l m n ≤ 562949953421312 * m ∧ (Co.cnts l m n < m → Co.cnts l m n = n + Co.fulls l ∧ Co.Oks l)
 | [], m, n => by intro _ _ _ _ h; simp only [Co.cnts, Co.fulls, Co.Oks]; exact ⟨by omega, h, fun _ => ⟨by omega, trivial⟩⟩
 | x :: xs, m, n => by
  intro hl h1 h2 h3 h4
  rw [Co.Lims] at hl
  rw [Co.cnts, Co.fulls, Co.Oks]
  split
  ·rename_i h
   obtain ⟨a1, a2, a4⟩ := Co.cnt_b x (m - n) hl.1 (by omega) (by omega)
   generalize x.cnt (m - n) = c at *
   obtain ⟨b1, b2, b4⟩ := Co.cnts_b xs m (n + c) hl.2 h1 h2 (by omega) (by omega)
   generalize Co.cnts xs m (n + c) = r at *
   refine ⟨by omega, b2, fun h => ?_⟩
   obtain ⟨b5, b6⟩ := b4 h
   obtain ⟨a5, a6⟩ := a4 (by omega)
   exact ⟨by omega, a6, b6⟩
  rename_i h
  exact ⟨by omega, h4, fun q => absurd q h⟩
theorem Ca.cnt_b : ∀ (e : Ca) (m : Int), e.Lim → 1 ≤ m → m ≤ 2000 → 2 ≤ e.cnt m ∧ e.cnt m ≤ 1 + 562949953421312 * m + 140737488355328 ∧ (e.cnt m < m → e.cnt m = e.full ∧ e.Ok)
 | .mk q e, m => by
  intro hl h1 h2
  rw [Ca.Lim] at hl
  rw [Ca.cnt, Ca.full, Ca.Ok]
  obtain ⟨a1, a2, a4⟩ := Co.cnt_b e m hl.1 h1 h2
  refine ⟨by omega, by omega, fun h => ?_⟩
  obtain ⟨a5, a6⟩ := a4 (by omega)
  exact ⟨by omega, a6⟩
theorem Ca.cnts_b : ∀ (l : List Ca) (m n : Int), Ca.Lims l → 1 ≤ m → m ≤ 2000 → 1 ≤ n → n ≤ 562949953421312 * m → n ≤ Ca.cnts l m n ∧ Ca.cnts l m n ≤ 562949953421312 * m ∧ (Ca.cnts l m n < m → Ca.cnts l m n = n + Ca.fulls l ∧ Ca.Oks l)
 | [], m, n => by intro _ _ _ _ h; simp only [Ca.cnts, Ca.fulls, Ca.Oks]; exact ⟨by omega, h, fun _ => ⟨by omega, trivial⟩⟩
 | x :: xs, m, n => by
  intro hl h1 h2 h3 h4
  rw [Ca.Lims] at hl
  rw [Ca.cnts, Ca.fulls, Ca.Oks]
  split
  ·rename_i h
   obtain ⟨a1, a2, a4⟩ := Ca.cnt_b x (m - n) hl.1 (by omega) (by omega)
   generalize x.cnt (m - n) = c at *
   obtain ⟨b1, b2, b4⟩ := Ca.cnts_b xs m (n + c) hl.2 h1 h2 (by omega) (by omega)
   generalize Ca.cnts xs m (n + c) = r at *
   refine ⟨by omega, b2, fun h => ?_⟩
   obtain ⟨b5, b6⟩ := b4 h
   obtain ⟨a5, a6⟩ := a4 (by omega)
   exact ⟨by omega, a6, b6⟩
  rename_i h
  exact ⟨by omega, h4, fun q => absurd q h⟩
theorem Cb.cnt_b : ∀ (e : Cb) (m : Int), e.Lim → 1 ≤ m → m ≤ 2000 → 2 ≤ e.cnt m ∧ e.cnt m ≤ 1 + 562949953421312 * m + 140737488355328 ∧ (e.cnt m < m → e.cnt m = e.full ∧ e.e.Ok)
 | .mk s vs t e, m => by
  intro hl h1 h2
  rw [Cb.Lim] at hl
  rw [Cb.cnt, Cb.full, Cb.e]
  obtain ⟨a1, a2, a4⟩ := Co.cnt_b e m hl.1 h1 h2
  refine ⟨by omega, by omega, fun h => ?_⟩
  obtain ⟨a5, a6⟩ := a4 (by omega)
  exact ⟨by omega, a6⟩
theorem Cb.cnts_b : ∀ (l : List Cb) (m n : Int), Cb.Lims l → 1 ≤ m → m ≤ 2000 → 1 ≤ n → n ≤ 562949953421312 * m → (n < m → n ≤ Cb.cnts l m n) ∧ 1 ≤ Cb.cnts l m n ∧ Cb.cnts l m n ≤ 562949953421312 * m ∧ (Cb.cnts l m n < m → n ≤ Cb.cnts l m n ∧ Cb.cnts l m n = n + Cb.fulls l ∧ Cb.Oks l)
 | [], m, n => by intro _ _ _ h0 h; simp only [Cb.cnts, Cb.fulls, Cb.Oks]; exact ⟨fun _ => by omega, h0, h, fun _ => ⟨by omega, by omega, trivial⟩⟩
 | .mk s vs t e :: xs, m, n => by
  intro hl h1 h2 h3 h4
  rw [Cb.Lims] at hl
  rw [Cb.cnts, Cb.fulls, Cb.Oks, Cb.Ok]
  split
  ·rename_i h
   split
   ·exact ⟨fun _ => by omega, h1, by omega, fun q => absurd q (by omega)⟩
   rename_i ht
   obtain ⟨a1, a2, a4⟩ := Cb.cnt_b (.mk s vs t e) (m - n) hl.1 (by omega) (by omega)
   generalize (Cb.mk s vs t e).cnt (m - n) = c at *
   obtain ⟨b0, b1, b2, b4⟩ := Cb.cnts_b xs m (n + c) hl.2 h1 h2 (by omega) (by omega)
   generalize Cb.cnts xs m (n + c) = r at *
   have hle : n ≤ r := by
    by_cases q : r < m
    ·have := (b4 q).1; omega
    omega
   refine ⟨fun _ => hle, b1, b2, fun h => ?_⟩
   obtain ⟨b7, b5, b6⟩ := b4 h
   obtain ⟨a5, a6⟩ := a4 (by omega)
   exact ⟨hle, by omega, ⟨by simpa [Cb.t] using ht, a6⟩, b6⟩
  rename_i h
  exact ⟨fun q => absurd q h, h3, h4, fun q => absurd q h⟩
end
theorem rel_agg' {F : EH} {v : Value} {cs : List AV} (hl : cs.length ≠ 1) (h : Rels F cs v.cells.toList) (h1 : Ones v.cells.toList) : Rel F (.agg cs) v := by
 refine rel_agg ?_ h h1
 have := h.len
 cases v <;> first | exact ⟨_, rfl⟩ | (exfalso; exact hl (by rw [this]; rfl))
theorem cellsOf_pa : Tryz.prog.cellsOf 67 = 5 := by kernel_rfl
theorem cellsOf_co : Tryz.prog.cellsOf 29 = 11 := by kernel_rfl
theorem cellsOf_ca : Tryz.prog.cellsOf 69 = 16 := by kernel_rfl
theorem cellsOf_cb : Tryz.prog.cellsOf 46 = 17 := by kernel_rfl
theorem shapeL_ty (L fuel : Nat) : ∀ cs, ShapeL Tryz.prog L fuel 24 cs → ∃ t : Ty, cs = t.cells ∧ t.kn ≤ L := by
 induction fuel using Nat.strongRecOn with
 | _ fuel ih =>
  intro cs h
  obtain ⟨n, hn, h⟩ := shapeL_struct Tryz.underlying24 h
  simp only [ShapeLF] at h
  obtain ⟨a1, b1, rfl, h1, a2, b2, rfl, h2, a3, b3, rfl, h3, a4, b4, rfl, h4, rfl⟩ := h
  obtain ⟨k, _, rfl⟩ := shapeL_int tu_3 h1
  obtain ⟨s, _, rfl⟩ := shapeL_str tu_9 h2
  obtain ⟨m, _, rfl⟩ := shapeL_int tu_3 h3
  obtain ⟨n', es, hn', rfl, hl, h5⟩ := shapeL_slice tu_22 h4
  obtain ⟨ts, rfl, _⟩ := pick_all2 (f := Ty.cells) (fun x hx => ih n' (by omega) x (h5 x hx))
  refine ⟨.mk k s m ts, ?_, by rw [Ty.kn]; simpa using hl⟩
  rw [cellsOf_ty, ← Ty.cellss_map]
  rfl
theorem shapeL_pa (L fuel : Nat) : ∀ cs, ShapeL Tryz.prog L fuel 67 cs → ∃ t : Pa, cs = t.cells ∧ t.kn ≤ L := by
 induction fuel using Nat.strongRecOn with
 | _ fuel ih =>
  intro cs h
  obtain ⟨n, hn, h⟩ := shapeL_struct Tryz.underlying67 h
  simp only [ShapeLF] at h
  obtain ⟨a1, b1, rfl, h1, a2, b2, rfl, h2, a3, b3, rfl, h3, a4, b4, rfl, h4, a5, b5, rfl, h6, rfl⟩ := h
  obtain ⟨k, _, rfl⟩ := shapeL_int tu_3 h1
  obtain ⟨s, _, rfl⟩ := shapeL_str tu_9 h2
  obtain ⟨m, _, rfl⟩ := shapeL_int tu_2 h3
  obtain ⟨p, _, rfl⟩ := shapeL_int tu_3 h6
  obtain ⟨n', es, hn', rfl, hl, h5⟩ := shapeL_slice tu_65 h4
  obtain ⟨ts, rfl, _⟩ := pick_all2 (f := Pa.cells) (fun x hx => ih n' (by omega) x (h5 x hx))
  refine ⟨.mk k s m ts p, ?_, by rw [Pa.kn]; simpa using hl⟩
  rw [cellsOf_pa, ← Pa.cellss_map]
  rfl
theorem shapeL_tys {L fuel : Nat} {cs : List AV} (h : ShapeL Tryz.prog L fuel 22 cs) : ∃ ts : List Ty, cs = [.seq 4 (Ty.cellss ts)] ∧ ts.length ≤ L := by
 obtain ⟨n', es, hn', rfl, hl, h5⟩ := shapeL_slice tu_22 h
 obtain ⟨ts, rfl, _⟩ := pick_all2 (f := Ty.cells) (p := fun _ => True) (fun x hx => by
  obtain ⟨t, ht, _⟩ := shapeL_ty L n' x (h5 x hx)
  exact ⟨t, ht, trivial⟩)
 exact ⟨ts, by rw [cellsOf_ty, ← Ty.cellss_map], by simpa using hl⟩
theorem shapeL_strs {L fuel : Nat} {cs : List AV} (h : ShapeL Tryz.prog L fuel 44 cs) : ∃ ts : List ByteArray, cs = [.seq 1 (strs ts)] ∧ ts.length ≤ L := by
 obtain ⟨n', es, hn', rfl, hl, h5⟩ := shapeL_slice tu_44 h
 obtain ⟨ts, rfl, _⟩ := pick_all2 (f := fun s : ByteArray => [AV.val (.string s)]) (p := fun _ => True) (fun x hx => by
  obtain ⟨s, _, rfl⟩ := shapeL_str tu_9 (h5 x hx)
  exact ⟨s, V, trivial⟩)
 exact ⟨ts, by rw [cellsOf_str]; rfl, by simpa using hl⟩
theorem shapeL_co (L : Nat) (hL : L ≤ 140737488355328) (fuel : Nat) : ∀ cs, ShapeL Tryz.prog L fuel 29 cs → ∃ e : Co, cs = e.cells ∧ e.Lim := by
 induction fuel using Nat.strongRecOn with
 | _ fuel ih =>
  intro cs h
  obtain ⟨n, hn, h⟩ := shapeL_struct Tryz.underlying29 h
  simp only [ShapeLF] at h
  obtain ⟨a1, b1, rfl, h1, a2, b2, rfl, h2, a3, b3, rfl, h3, a4, b4, rfl, h4, a5, b5, rfl, h5, a6, b6, rfl, h6, a7, b7, rfl, h7, a8, b8, rfl, h8, rfl⟩ := h
  obtain ⟨k, _, rfl⟩ := shapeL_int tu_3 h1
  obtain ⟨s, _, rfl⟩ := shapeL_str tu_9 h2
  obtain ⟨m, _, rfl⟩ := shapeL_int tu_2 h3
  obtain ⟨t, rfl, _⟩ := shapeL_ty _ _ _ h4
  obtain ⟨us, rfl, hus⟩ := shapeL_tys h5
  obtain ⟨n6, e6, hn6, rfl, hl6, h6⟩ := shapeL_slice tu_25 h6
  obtain ⟨ks, rfl, hks⟩ := pick_all2 (f := Co.cells) (fun x hx => ih n6 (by omega) x (h6 x hx))
  obtain ⟨n7, e7, hn7, rfl, hl7, h7⟩ := shapeL_slice tu_26 h7
  obtain ⟨al, rfl, hal⟩ := pick_all2 (f := Ca.cells) (p := Ca.Lim) (fun x hx => by
   obtain ⟨n', hn', g⟩ := shapeL_struct Tryz.underlying69 (h7 x hx)
   simp only [ShapeLF] at g
   obtain ⟨a1, b1, rfl, g1, a2, b2, rfl, g2, rfl⟩ := g
   obtain ⟨q, rfl, hq⟩ := shapeL_pa _ _ _ g1
   obtain ⟨e, rfl, he⟩ := ih n' (by omega) _ g2
   exact ⟨.mk q e, by simp [Ca.cells], by rw [Ca.Lim]; exact ⟨he, by omega⟩⟩)
  obtain ⟨n8, e8, hn8, rfl, hl8, h8⟩ := shapeL_slice tu_27 h8
  obtain ⟨bs, rfl, hbs⟩ := pick_all2 (f := Cb.cells) (p := Cb.Lim) (fun x hx => by
   obtain ⟨n', hn', g⟩ := shapeL_struct Tryz.underlying46 (h8 x hx)
   simp only [ShapeLF] at g
   obtain ⟨a1, b1, rfl, g1, a2, b2, rfl, g2, a3, b3, rfl, g3, a4, b4, rfl, g4, rfl⟩ := g
   obtain ⟨s, _, rfl⟩ := shapeL_str tu_9 g1
   obtain ⟨vs, rfl, hvs⟩ := shapeL_strs g2
   obtain ⟨t, rfl, _⟩ := shapeL_ty _ _ _ g3
   obtain ⟨e, rfl, he⟩ := ih n' (by omega) _ g4
   exact ⟨.mk s vs t e, by simp [Cb.cells], by rw [Cb.Lim]; exact ⟨he, by omega⟩⟩)
  refine ⟨.mk k s m t us ks al bs, ?_, ?_⟩
  ·rw [cellsOf_co, cellsOf_ca, cellsOf_cb, ← Co.cellss_map, ← Ca.cellss_map, ← Cb.cellss_map, Co.cells]
   simp
  rw [Co.Lim]
  exact ⟨by omega, (Co.lims_iff _).2 hks, (Ca.lims_iff _).2 hal, (Cb.lims_iff _).2 hbs⟩
abbrev S21 : List TypeId := [24, 22, 3, 2, 9, 44, 67, 65, 29, 25, 69, 26, 46, 27]
theorem closed21 : closedL Tryz.prog S21 = true := by kernel_rfl
theorem Co.cells_len (e : Co) : e.cells.length = 11 := by cases e with | mk k s n t ts ks al bs => cases t; simp [Co.cells, Ty.cells]
theorem iff_f {p : Prop} (h : ¬ p) : (false = true ↔ p) := by simp [h]
theorem iff_t {p : Prop} (h : p) : (true = true ↔ p) := by simp [h]
theorem Texts_c (xs ys : List ByteArray) : BCall Tryz.prog 52 [.seq 1 (strs xs), .seq 1 (strs ys)] (xs = ys) := by
 have hlx := strs_len xs
 have hly := strs_len ys
 refine Zo Tryz.func52 V (by kernel_rfl) V (Xk V) ?_
 refine Ya ?_
 refine c_lens (t := 0) V (.seq _ _) (fun hmax => ?_)
 refine Zh (Zd (Za 4 V V V (Ze V V (Xg (Zb (Zh (Zh (Zd (Za 6 V V V (Zf V V ?_))))))))))
 refine Za 7 V V V (Yi V tu_44 V (.seq _ _) (fun n7 => ?_))
 refine Za 8 V V V (Zf V V ?_)
 refine Za 9 V V V (Yi V tu_44 V (.seq _ _) (fun n9 => ?_))
 refine Za 10 V V V (Xd V V V ?_); intro c10 h10
 refine Xg (Zb ?_)
 rcases Zj h10 with ⟨rfl, g10⟩ | ⟨rfl, g10⟩
 ·refine Zp V (Yb (Zb (Zh (Zh (Zd (Za 5 V V V (Ze V V (Xg (Zb (Yc ?_))))))))))
  refine c_loop (σ := Nat) (fun zz => match zz with | i => [(0, .seq 1 (strs xs)), (1, .seq 1 (strs ys)), (5, .val (.int .i64 i))]) (fun zz => match zz with | i => []) (fun zz => match zz with | i => i ≤ xs.length ∧ Upto xs ys i) (fun zz => match zz with | i => xs.length - i) (0) ?_ ?_ ?_ ?_
  ·exact ⟨by omega, Upto.zero _ _⟩
  ·exact by4
  ·exact by3
  rintro i hI
  try dsimp only [List.cons_append, List.nil_append] at hI ⊢
  obtain ⟨hi, hu⟩ := hI
  refine Zh (Zh (Zd (Za 11 V V V (Zf V V (Za 12 V V V (Zf V V ?_))))))
  refine Za 13 V V V (Yi V tu_44 V (.seq _ _) (fun n13 => ?_))
  refine Za 14 V V V (Yr V V V ?_); intro c14 h14
  refine Xg (Zb ?_)
  rcases Zj h14 with ⟨rfl, g14⟩ | ⟨rfl, g14⟩
  ·exact Zp V (Yu (Yw (x_lp (Yv (Zb (Zh (Zd (Za 4 V V V (Ze V V (Xg (Zb (Zx (Zv V V (Xi _) by3 ⟨⟨_, iff_t (hu.eq (by omega) (by omega)), V⟩, V⟩)))))))))))))
  refine Zq V (Yb (Zb (Zh (Yc (Zh ?_)))))
  obtain ⟨x, hx⟩ := Yj (l := xs) (i := i) (by omega)
  obtain ⟨y, hy⟩ := Yj (l := ys) (i := i) (by omega)
  have hcx := strs_get hx
  have hcy := strs_get hy
  refine c_drawn tmix V (Zm 17 V V (Zf V V ⟨V, V⟩) ?_)
  refine Zm 18 V V (Zf V V ⟨V, V⟩) ?_
  refine Zm 19 V V (Zz V te_44 V (.seq _ _) V V (by assumption) ⟨V, V⟩) ?_
  refine Zm 20 V V (Zk V ta_9 V V ⟨V, V⟩) ?_
  refine Zm 21 V V (Zf V V ⟨V, V⟩) ?_
  refine Zm 22 V V (Zf V V ⟨V, V⟩) ?_
  refine Zm 23 V V (Zz V te_44 V (.seq _ _) V V (by assumption) ⟨V, V⟩) ?_
  refine Zm 24 V V (Zk V ta_9 V V ⟨V, V⟩) ?_
  refine DOps.cm 25 V V (fun _ q => op_sneq V V V q) ?_; intro c25 h25
  show AGo _ _ _ _ _ _ _
  refine Zb ?_
  rcases Zj h25 with ⟨rfl, g25⟩ | ⟨rfl, g25⟩
  ·refine Zp V (Yb (Yq (Zb (Zd (Za 15 V V V (Zf V V (Za 16 V V V (Yp V V V (Xo _ (by omega)) ?_))))))))
   refine Za 5 V V V (Ze V V (Xg (go_lp ?_)))
   exact ⟨i + 1, ⟨by omega, hu.succ hx hy (by simpa using g25)⟩, by simp; omega, by4, by3⟩
  exact Zq V (Zh (Zd (Za 4 V V V (Ze V V (Xg (Zb (Zx (Zv V V (Xi _) by3 ⟨⟨_, iff_f (at_ne hx hy g25), V⟩, V⟩))))))))
 exact Zq V (Zh (Zd (Za 4 V V V (Ze V V (Xg (Zb (Zx (Zv V V (Xi _) by3 ⟨⟨_, iff_f (len_ne (by omega)), V⟩, V⟩))))))))
theorem SameTypes_of (d : Nat) (ih : ∀ a b : Ty, a.size ≤ d → BCall Tryz.prog 24 [.agg a.cells, .agg b.cells] (a = b)) (xs ys : List Ty) (hd : Ty.sizes xs ≤ d) : BCall Tryz.prog 34 [.seq 4 (Ty.cellss xs), .seq 4 (Ty.cellss ys)] (xs = ys) := by
 have hlx := Ty.cellss_len xs
 have hly := Ty.cellss_len ys
 refine Zo Tryz.func34 V (by kernel_rfl) V (Xk V) ?_
 refine Ya ?_
 refine c_lens (t := 0) V (.seq _ _) (fun hmax => ?_)
 refine Zh (Zd (Za 4 V V V (Ze V V (Xg (Zb (Zh (Zh (Zd (Za 6 V V V (Zf V V ?_))))))))))
 refine Za 7 V V V (Yi V tu_22 V (.seq _ _) (fun n7 => ?_))
 refine Za 8 V V V (Zf V V ?_)
 refine Za 9 V V V (Yi V tu_22 V (.seq _ _) (fun n9 => ?_))
 refine Za 10 V V V (Xd V V V ?_); intro c10 h10
 refine Xg (Zb ?_)
 rcases Zj h10 with ⟨rfl, g10⟩ | ⟨rfl, g10⟩
 ·refine Zp V (Yb (Zb (Zh (Zh (Zd (Za 5 V V V (Ze V V (Xg (Zb (Yc ?_))))))))))
  refine c_loop (σ := Nat) (fun zz => match zz with | i => [(0, .seq 4 (Ty.cellss xs)), (1, .seq 4 (Ty.cellss ys)), (5, .val (.int .i64 i))]) (fun zz => match zz with | i => []) (fun zz => match zz with | i => i ≤ xs.length ∧ Upto xs ys i) (fun zz => match zz with | i => xs.length - i) (0) ?_ ?_ ?_ ?_
  ·exact ⟨by omega, Upto.zero _ _⟩
  ·exact by4
  ·exact by3
  rintro i hI
  try dsimp only [List.cons_append, List.nil_append] at hI ⊢
  obtain ⟨hi, hu⟩ := hI
  refine Zh (Zh (Zd (Za 11 V V V (Zf V V (Za 12 V V V (Zf V V ?_))))))
  refine Za 13 V V V (Yi V tu_22 V (.seq _ _) (fun n13 => ?_))
  refine Za 14 V V V (Yr V V V ?_); intro c14 h14
  refine Xg (Zb ?_)
  rcases Zj h14 with ⟨rfl, g14⟩ | ⟨rfl, g14⟩
  ·exact Zp V (Yu (Yw (x_lp (Yv (Zb (Zh (Zd (Za 4 V V V (Ze V V (Xg (Zb (Zx (Zv V V (Xi _) by3 ⟨⟨_, iff_t (hu.eq (by omega) (by omega)), V⟩, V⟩)))))))))))))
  refine Zq V (Yb (Zb (Zh (Yc (Zh ?_)))))
  obtain ⟨⟨k1, s1, n1, ks1⟩, hx⟩ := Yj (l := xs) (i := i) (by omega)
  obtain ⟨⟨k2, s2, n2, ks2⟩, hy⟩ := Yj (l := ys) (i := i) (by omega)
  have hcx := Ty.cellss_get hx
  have hcy := Ty.cellss_get hy
  have hsz := Ty.size_at hx
  refine c_drawn tmix V (Zm 17 V V (Zf V V ⟨V, V⟩) ?_)
  refine Zm 18 V V (Zf V V ⟨V, V⟩) ?_
  refine Zm 19 V V (Zz V te_22 V (.seq _ _) V V (by assumption) ⟨V, V⟩) ?_
  refine Zm 20 V V (Zn (cs' := [_, _, _, _]) V Ye V V V ⟨V, V⟩) ?_
  refine Zm 21 V V (Zf V V ⟨V, V⟩) ?_
  refine Zm 22 V V (Zf V V ⟨V, V⟩) ?_
  refine Zm 23 V V (Zz V te_22 V (.seq _ _) V V (by assumption) ⟨V, V⟩) ?_
  refine Zm 24 V V (Zn (cs' := [_, _, _, _]) V Ye V V V ⟨V, V⟩) ?_
  refine DOps.cm 25 V V (fun _ q => Yh (xs := [.tmp 20, .tmp 24]) V V (ih (.mk k1 s1 n1 ks1) (.mk k2 s2 n2 ks2) (by omega)) by1 q) ?_; intro c25 h25
  refine DOps.cm 26 V V (fun _ q => Yn V V q) ?_; intro c26 h26
  try replace h26 := nott h26 h25
  show AGo _ _ _ _ _ _ _
  refine Zb ?_
  rcases Zj h26 with ⟨rfl, g26⟩ | ⟨rfl, g26⟩
  ·refine Zp V (Yb (Yq (Zb (Zd (Za 15 V V V (Zf V V (Za 16 V V V (Yp V V V (Xo _ (by omega)) ?_))))))))
   refine Za 5 V V V (Ze V V (Xg (go_lp ?_)))
   exact ⟨i + 1, ⟨by omega, hu.succ hx hy (Classical.not_not.1 g26)⟩, by simp; omega, by4, by3⟩
  exact Zq V (Zh (Zd (Za 4 V V V (Ze V V (Xg (Zb (Zx (Zv V V (Xi _) by3 ⟨⟨_, iff_f (at_ne hx hy g26), V⟩, V⟩))))))))
 exact Zq V (Zh (Zd (Za 4 V V V (Ze V V (Xg (Zb (Zx (Zv V V (Xi _) by3 ⟨⟨_, iff_f (len_ne (by omega)), V⟩, V⟩))))))))
theorem SameType_of (d : Nat) (ih : ∀ xs ys : List Ty, Ty.sizes xs ≤ d → BCall Tryz.prog 34 [.seq 4 (Ty.cellss xs), .seq 4 (Ty.cellss ys)] (xs = ys)) (a b : Ty) (hd : a.size ≤ d + 1) : BCall Tryz.prog 24 [.agg a.cells, .agg b.cells] (a = b) := by
 obtain ⟨k1, s1, n1, ks1⟩ := a
 obtain ⟨k2, s2, n2, ks2⟩ := b
 rw [Ty.size] at hd
 refine Zo Tryz.func24 V (by kernel_rfl) V (Xk V) ?_
 refine Ya (Zh (Zd (Za 2 V V V (op_boxe (cs' := [_, _, _, _]) V V V V ?_)))); intro b2
 refine Za 3 V V V (op_boxe (cs' := [_, _, _, _]) V V V V ?_); intro b3
 refine Za 4 V V V (Ze V V (Xg (Zb (Zh (Xe 4 (Ty.mk k1 s1 n1 ks1 = Ty.mk k2 s2 n2 ks2) ?_ _ _ V ?_)))))
 ·skip
  refine Za 5 V V V (Zs V tf_24_0 V (Za 6 V V V (Yg (i := 1) V ta_3 V V V (Za 7 V V V (Zs V tf_24_0 V (Za 8 V V V (Yg (i := 0) V ta_3 V V V (Za 9 V V V (op_eql V V V ?_))))))))); intro c9 h9
  refine Za 10 V V V (Zf V V ?_)
  rcases Zj h9 with ⟨rfl, g9⟩ | ⟨rfl, g9⟩
  ·skip
   refine Zc 11 V V V V V (Zc 12 V V V V V (Zc 13 V V V V V (Zc 14 V V V V V (Zc 15 V V V V V (Za 16 V V V (Zl V V V (Za 17 V V V (Zf V V (Zc 18 V V V V V (Zc 19 V V V V V (Zc 20 V V V V V (Zc 21 V V V V V (Zc 22 V V V V V ?_)))))))))))))
   refine Za 23 V V V (Zl V V V (Za 24 V V V (Zf V V (Zc 25 V V V V V (Zc 26 V V V V V (Zc 27 V V V V V (Zc 28 V V V V V (Zc 29 V V V V V (Za 30 V V V (Zl V V V (Za 4 V V V (Ze V V (Xg (Xj V ?_ by5 by3))))))))))))))
   simp_all
  skip
  refine Zi 11 V V V V V (Zs V tf_24_1 V (Zi 12 V V V V V (Yg (i := 1) V ta_9 V V V (Zi 13 V V V V V (Zs V tf_24_1 V (Zi 14 V V V V V (Yg (i := 0) V ta_9 V V V (Zi 15 V V V V V (op_seql V V V ?_))))))))); intro c15 h15
  refine Za 16 V V V (Zl V V V (Za 17 V V V (Zf V V ?_)))
  rcases Zj h15 with ⟨rfl, g15⟩ | ⟨rfl, g15⟩
  ·skip
   refine Zc 18 V V V V V (Zc 19 V V V V V (Zc 20 V V V V V (Zc 21 V V V V V (Zc 22 V V V V V (Za 23 V V V (Zl V V V (Za 24 V V V (Zf V V (Zc 25 V V V V V (Zc 26 V V V V V (Zc 27 V V V V V (Zc 28 V V V V V (Zc 29 V V V V V ?_)))))))))))))
   refine Za 30 V V V (Zl V V V (Za 4 V V V (Ze V V (Xg (Xj V ?_ by5 by3)))))
   simp_all
  skip
  refine Zi 18 V V V V V (Zs V tf_24_2 V (Zi 19 V V V V V (Yg (i := 1) V ta_3 V V V (Zi 20 V V V V V (Zs V tf_24_2 V (Zi 21 V V V V V (Yg (i := 0) V ta_3 V V V (Zi 22 V V V V V (op_eql V V V ?_))))))))); intro c22 h22
  refine Za 23 V V V (Zl V V V (Za 24 V V V (Zf V V ?_)))
  rcases Zj h22 with ⟨rfl, g22⟩ | ⟨rfl, g22⟩
  ·skip
   refine Zc 25 V V V V V (Zc 26 V V V V V (Zc 27 V V V V V (Zc 28 V V V V V (Zc 29 V V V V V (Za 30 V V V (Zl V V V (Za 4 V V V (Ze V V (Xg (Xj V ?_ by5 by3))))))))))
   simp_all
  skip
  refine Zi 25 V V V V V (Zs V Xa V (Zi 26 V V V V V (Yg (i := 1) V Xc V V V (Zi 27 V V V V V (Zs V Xa V (Zi 28 V V V V V (Yg (i := 0) V Xc V V V (Zi 29 V V V V V (Yh (xs := [.tmp 26, .tmp 28]) V V (ih ks1 ks2 (by omega)) by1 ?_))))))))); intro c29 h29
  refine Za 30 V V V (Zl V V V (Za 4 V V V (Ze V V (Xg (Xj V ?_ by5 by3)))))
  simp_all
 intro c4 h4
 exact Zb (Zx (Zv V V (Xi _) by3 ⟨⟨_, h4, V⟩, V⟩))
theorem SameTy_all (d : Nat) : (∀ a b : Ty, a.size ≤ d → BCall Tryz.prog 24 [.agg a.cells, .agg b.cells] (a = b)) ∧ (∀ xs ys : List Ty, Ty.sizes xs ≤ d → BCall Tryz.prog 34 [.seq 4 (Ty.cellss xs), .seq 4 (Ty.cellss ys)] (xs = ys)) := by
 induction d with
 | zero =>
  have h1 : ∀ a b : Ty, a.size ≤ 0 → BCall Tryz.prog 24 [.agg a.cells, .agg b.cells] (a = b) := fun a b h => by have := Ty.size_pos a; omega
  exact ⟨h1, SameTypes_of 0 h1⟩
 | succ d ih => exact ⟨SameType_of d ih.2, SameTypes_of (d + 1) (SameType_of d ih.2)⟩
theorem SameType_c (a b : Ty) : BCall Tryz.prog 24 [.agg a.cells, .agg b.cells] (a = b) := (SameTy_all a.size).1 a b (Nat.le_refl _)
theorem SameTypes_c (xs ys : List Ty) : BCall Tryz.prog 34 [.seq 4 (Ty.cellss xs), .seq 4 (Ty.cellss ys)] (xs = ys) := (SameTy_all (Ty.sizes xs)).2 xs ys (Nat.le_refl _)
theorem EqF_Ty {β : Type} (f : Ty → β) (g : FuncId) (xs ys : List Ty) (hg : ∀ x ∈ xs, ∀ y, BCall Tryz.prog g [.agg x.cells, .agg y.cells] (f x = f y)) : BCall Tryz.prog 26 [.seq 4 (Ty.cellss xs), .seq 4 (Ty.cellss ys), .clo (.func g) [] []] (xs.map f = ys.map f) := by
 have hlx := Ty.cellss_len xs
 have hly := Ty.cellss_len ys
 refine Zo Tryz.func26 V (by kernel_rfl) V (Xk V) ?_
 refine Ya ?_
 refine c_lens (t := 0) V (.seq _ _) (fun hmax => ?_)
 refine Zh (Zd (Za 6 V V V (Ze V V (Xg (Zb (Zh (Zh (Zd (Za 10 V V V (Zf V V ?_))))))))))
 refine Za 11 V V V (Yi V tu_22 V (.seq _ _) (fun n11 => ?_))
 refine Za 12 V V V (Zf V V ?_)
 refine Za 13 V V V (Yi V tu_22 V (.seq _ _) (fun n13 => ?_))
 refine Za 14 V V V (Xd V V V ?_); intro c14 h14
 refine Xg (Zb ?_)
 rcases Zj h14 with ⟨rfl, g14⟩ | ⟨rfl, g14⟩
 ·refine Zp V (Yb (Zb (Zh (Zh (Zd (Za 15 V V V (Zf V V ?_)))))))
  refine Za 16 V V V (Yi V tu_22 V (.seq _ _) (fun n16 => ?_))
  refine Za 17 V V V (Zf V V (Xg (Zb (Yc ?_))))
  refine c_loop (σ := Nat) (fun zz => match zz with | i => [(0, .seq 4 (Ty.cellss xs)), (1, .seq 4 (Ty.cellss ys)), (2, .clo (.func g) [] []), (15, .seq 4 (Ty.cellss xs)), (16, .val (.int .i64 (Ty.cellss xs).length)), (17, .val (.int .i64 i))]) (fun zz => match zz with | i => []) (fun zz => match zz with | i => i ≤ xs.length ∧ Upto (xs.map f) (ys.map f) i) (fun zz => match zz with | i => xs.length - i) (0) ?_ ?_ ?_ ?_
  ·exact ⟨by omega, Upto.zero _ _⟩
  ·exact by4
  ·exact by3
  rintro i hI
  try dsimp only [List.cons_append, List.nil_append] at hI ⊢
  obtain ⟨hi, hu⟩ := hI
  refine Zh (Zd (Za 18 V V V (Yr V V V ?_))); intro c18 h18
  refine Xg (Zb (Zh ?_))
  rcases Zj h18 with ⟨rfl, g18⟩ | ⟨rfl, g18⟩
  ·refine Zp V (Yu (Yw (x_lp (Yv (Zb (Zh (Zd (Za 6 V V V (Ze V V (Xg (Zb (Zx ?_))))))))))))
   exact Zv V V (Xi _) by3 ⟨⟨_, iff_t (hu.eq (by simp; omega) (by simp; omega)), V⟩, V⟩
  refine Zq V (Yb (Zb (Zh (Yc (Zh ?_)))))
  obtain ⟨⟨k1, s1, n1, ks1⟩, hx⟩ := Yj (l := xs) (i := i) (by omega)
  obtain ⟨⟨k2, s2, n2, ks2⟩, hy⟩ := Yj (l := ys) (i := i) (by omega)
  have hcx := Ty.cellss_get hx
  have hcy := Ty.cellss_get hy
  refine Zd (Za 19 V V V (Zf V V (Za 20 V V V (Zz V te_22 V (.seq _ _) V V (by assumption) ?_))))
  refine Za 21 V V V (Zn (cs' := [_, _, _, _]) V Ye V V V (Za 8 V V V (Zy (cs' := [_, _, _, _]) V Yy V V ?_))); intro b8
  refine Za 7 V V V (Ze V V (Yf V V (Zw (cs' := [_, _, _, _]) (i := 0) V Yx V V V V V (Xk V) V (Xg (Zb (Zh (Zd (Za 22 V V V (Zf V V (Za 23 V V V (Zf V V (Za 24 V V V (Zz V te_22 V (.seq _ _) V V (by assumption) ?_)))))))))))))
  refine Za 25 V V V (Zn (cs' := [_, _, _, _]) V Ye V V V (Za 9 V V V (Zy (cs' := [_, _, _, _]) V Yy V V ?_))); intro b9
  refine Yf V V (Zw (cs' := [_, _, _, _]) (i := 0) V Yx V V V V V (Xk V) V (Xg (Zb (Zh (Zd (Za 26 V V V (Zf V V (Za 27 V V V (Zt (cs' := [_, _, _, _]) (i := 1) V Ye V V V V (Za 28 V V V (Zt (cs' := [_, _, _, _]) (i := 0) V Ye V V V V (Za 29 V V V (op_callvb (xs := [.tmp 27, .tmp 28]) V V V (hg _ (Xp hx) ⟨k2, s2, n2, ks2⟩) by1 ?_))))))))))))); intro c29 h29
  refine Za 30 V V V (Yn V V ?_); intro c30 h30
  try replace h30 := nott h30 h29
  refine Xg (Zb ?_)
  rcases Zj h30 with ⟨rfl, g30⟩ | ⟨rfl, g30⟩
  ·refine Zp V (Yb (Yq (Zb (Zd (Za 31 V V V (Yp V V V (Xo _ (by omega)) ?_))))))
   refine Za 17 V V V (Zf V V (Xg (go_lp ?_)))
   exact ⟨i + 1, ⟨by omega, upto_map f hu hx hy (Classical.not_not.1 g30)⟩, by simp; omega, by4, by3⟩
  exact Zq V (Zh (Zd (Za 6 V V V (Ze V V (Xg (Zb (Zx (Zv V V (Xi _) by3 ⟨⟨_, iff_f (map_ne f hx hy g30), V⟩, V⟩))))))))
 exact Zq V (Zh (Zd (Za 6 V V V (Ze V V (Xg (Zb (Zx (Zv V V (Xi _) by3 ⟨⟨_, iff_f (map_len_ne f (by omega)), V⟩, V⟩))))))))
theorem Eqs_Ty {β : Type} (f : Ty → β) (g : FuncId) (xs ys : List Ty) (hg : ∀ x ∈ xs, ∀ y, BCall Tryz.prog g [.agg x.cells, .agg y.cells] (f x = f y)) : BCall Tryz.prog 50 [.seq 4 (Ty.cellss xs), .seq 4 (Ty.cellss ys), .clo (.func g) [] []] (xs.map f = ys.map f) := by
 have H := EqF_Ty f g xs ys hg
 refine Zo Tryz.func50 V (by kernel_rfl) V (Xk V) ?_
 refine Ya (Zh (Zd (Za 6 V V V (Ze V V (Xg (Zb (Zh (Zd (Za 7 V V V (Zf V V (Za 8 V V V (Zf V V (Za 9 V V V (Zf V V (Za 10 V V V (Yh (xs := [.tmp 7, .tmp 8, .tmp 9]) V V (H) by1 ?_)))))))))))))))); intro c10 h10
 exact Za 6 V V V (Ze V V (Xg (Zb (Zx (Zv V V (Xi _) by3 ⟨⟨_, h10, V⟩, V⟩)))))
theorem EqF_Pa {β : Type} (f : Pa → β) (g : FuncId) (xs ys : List Pa) (hg : ∀ x ∈ xs, ∀ y, BCall Tryz.prog g [.agg x.cells, .agg y.cells] (f x = f y)) : BCall Tryz.prog 96 [.seq 5 (Pa.cellss xs), .seq 5 (Pa.cellss ys), .clo (.func g) [] []] (xs.map f = ys.map f) := by
 have hlx := Pa.cellss_len xs
 have hly := Pa.cellss_len ys
 refine Zo Tryz.func96 V (by kernel_rfl) V (Xk V) ?_
 refine Ya ?_
 refine c_lens (t := 0) V (.seq _ _) (fun hmax => ?_)
 refine Zh (Zd (Za 6 V V V (Ze V V (Xg (Zb (Zh (Zh (Zd (Za 10 V V V (Zf V V ?_))))))))))
 refine Za 11 V V V (Yi V tu_65 V (.seq _ _) (fun n11 => ?_))
 refine Za 12 V V V (Zf V V ?_)
 refine Za 13 V V V (Yi V tu_65 V (.seq _ _) (fun n13 => ?_))
 refine Za 14 V V V (Xd V V V ?_); intro c14 h14
 refine Xg (Zb ?_)
 rcases Zj h14 with ⟨rfl, g14⟩ | ⟨rfl, g14⟩
 ·refine Zp V (Yb (Zb (Zh (Zh (Zd (Za 15 V V V (Zf V V ?_)))))))
  refine Za 16 V V V (Yi V tu_65 V (.seq _ _) (fun n16 => ?_))
  refine Za 17 V V V (Zf V V (Xg (Zb (Yc ?_))))
  refine c_loop (σ := Nat) (fun zz => match zz with | i => [(0, .seq 5 (Pa.cellss xs)), (1, .seq 5 (Pa.cellss ys)), (2, .clo (.func g) [] []), (15, .seq 5 (Pa.cellss xs)), (16, .val (.int .i64 (Pa.cellss xs).length)), (17, .val (.int .i64 i))]) (fun zz => match zz with | i => []) (fun zz => match zz with | i => i ≤ xs.length ∧ Upto (xs.map f) (ys.map f) i) (fun zz => match zz with | i => xs.length - i) (0) ?_ ?_ ?_ ?_
  ·exact ⟨by omega, Upto.zero _ _⟩
  ·exact by4
  ·exact by3
  rintro i hI
  try dsimp only [List.cons_append, List.nil_append] at hI ⊢
  obtain ⟨hi, hu⟩ := hI
  refine Zh (Zd (Za 18 V V V (Yr V V V ?_))); intro c18 h18
  refine Xg (Zb (Zh ?_))
  rcases Zj h18 with ⟨rfl, g18⟩ | ⟨rfl, g18⟩
  ·refine Zp V (Yu (Yw (x_lp (Yv (Zb (Zh (Zd (Za 6 V V V (Ze V V (Xg (Zb (Zx ?_))))))))))))
   exact Zv V V (Xi _) by3 ⟨⟨_, iff_t (hu.eq (by simp; omega) (by simp; omega)), V⟩, V⟩
  refine Zq V (Yb (Zb (Zh (Yc (Zh ?_)))))
  obtain ⟨⟨k1, s1, n1, ks1, p1⟩, hx⟩ := Yj (l := xs) (i := i) (by omega)
  obtain ⟨⟨k2, s2, n2, ks2, p2⟩, hy⟩ := Yj (l := ys) (i := i) (by omega)
  have hcx := Pa.cellss_get hx
  have hcy := Pa.cellss_get hy
  refine Zd (Za 19 V V V (Zf V V (Za 20 V V V (Zz V te_65 V (.seq _ _) V V (by assumption) ?_))))
  refine Za 21 V V V (Zn (cs' := [_, _, _, _, _]) V ta_67 V V V (Za 8 V V V (Zy (cs' := [_, _, _, _, _]) V tz_67 V V ?_))); intro b8
  refine Za 7 V V V (Ze V V (Yf V V (Zw (cs' := [_, _, _, _, _]) (i := 0) V ts_67 V V V V V (Xk V) V (Xg (Zb (Zh (Zd (Za 22 V V V (Zf V V (Za 23 V V V (Zf V V (Za 24 V V V (Zz V te_65 V (.seq _ _) V V (by assumption) ?_)))))))))))))
  refine Za 25 V V V (Zn (cs' := [_, _, _, _, _]) V ta_67 V V V (Za 9 V V V (Zy (cs' := [_, _, _, _, _]) V tz_67 V V ?_))); intro b9
  refine Yf V V (Zw (cs' := [_, _, _, _, _]) (i := 0) V ts_67 V V V V V (Xk V) V (Xg (Zb (Zh (Zd (Za 26 V V V (Zf V V (Za 27 V V V (Zt (cs' := [_, _, _, _, _]) (i := 1) V ta_67 V V V V (Za 28 V V V (Zt (cs' := [_, _, _, _, _]) (i := 0) V ta_67 V V V V (Za 29 V V V (op_callvb (xs := [.tmp 27, .tmp 28]) V V V (hg _ (Xp hx) ⟨k2, s2, n2, ks2, p2⟩) by1 ?_))))))))))))); intro c29 h29
  refine Za 30 V V V (Yn V V ?_); intro c30 h30
  try replace h30 := nott h30 h29
  refine Xg (Zb ?_)
  rcases Zj h30 with ⟨rfl, g30⟩ | ⟨rfl, g30⟩
  ·refine Zp V (Yb (Yq (Zb (Zd (Za 31 V V V (Yp V V V (Xo _ (by omega)) ?_))))))
   refine Za 17 V V V (Zf V V (Xg (go_lp ?_)))
   exact ⟨i + 1, ⟨by omega, upto_map f hu hx hy (Classical.not_not.1 g30)⟩, by simp; omega, by4, by3⟩
  exact Zq V (Zh (Zd (Za 6 V V V (Ze V V (Xg (Zb (Zx (Zv V V (Xi _) by3 ⟨⟨_, iff_f (map_ne f hx hy g30), V⟩, V⟩))))))))
 exact Zq V (Zh (Zd (Za 6 V V V (Ze V V (Xg (Zb (Zx (Zv V V (Xi _) by3 ⟨⟨_, iff_f (map_len_ne f (by omega)), V⟩, V⟩))))))))
theorem Eqs_Pa {β : Type} (f : Pa → β) (g : FuncId) (xs ys : List Pa) (hg : ∀ x ∈ xs, ∀ y, BCall Tryz.prog g [.agg x.cells, .agg y.cells] (f x = f y)) : BCall Tryz.prog 51 [.seq 5 (Pa.cellss xs), .seq 5 (Pa.cellss ys), .clo (.func g) [] []] (xs.map f = ys.map f) := by
 have H := EqF_Pa f g xs ys hg
 refine Zo Tryz.func51 V (by kernel_rfl) V (Xk V) ?_
 refine Ya (Zh (Zd (Za 6 V V V (Ze V V (Xg (Zb (Zh (Zd (Za 7 V V V (Zf V V (Za 8 V V V (Zf V V (Za 9 V V V (Zf V V (Za 10 V V V (Yh (xs := [.tmp 7, .tmp 8, .tmp 9]) V V (H) by1 ?_)))))))))))))))); intro c10 h10
 exact Za 6 V V V (Ze V V (Xg (Zb (Zx (Zv V V (Xi _) by3 ⟨⟨_, h10, V⟩, V⟩)))))
theorem tSameType_c (a : Ty) : ∀ b : Ty, BCall Tryz.prog 25 [.agg a.cells, .agg b.cells] (a = b) := by
 obtain ⟨k1, s1, n1, ks1⟩ := a
 rintro ⟨k2, s2, n2, ks2⟩
 have H := Eqs_Ty id 25 ks1 ks2 (fun x hx y => tSameType_c x y)
 refine Zo Tryz.func25 V (by kernel_rfl) V (Xk V) ?_
 refine Ya (Zh (Zd (Za 2 V V V (Yl (cs' := [_, _, _, _]) V V V V (Za 3 V V V (Yl (cs' := [_, _, _, _]) V V V V (Za 4 V V V (Ze V V (Xg (Zb (Zh (Xe 4 (Ty.mk k1 s1 n1 ks1 = Ty.mk k2 s2 n2 ks2) ?_ _ _ V ?_))))))))))))
 ·skip
  refine Za 5 V V V (Zg V tf_24_0 V V (Za 6 V V V (Zk V ta_3 V V (Za 7 V V V (Zg V tf_24_0 V V (Za 8 V V V (Zk V ta_3 V V (Za 9 V V V (op_eql V V V ?_))))))))); intro c9 h9
  refine Za 10 V V V (Zf V V ?_)
  rcases Zj h9 with ⟨rfl, g9⟩ | ⟨rfl, g9⟩
  ·skip
   refine Zc 11 V V V V V (Zc 12 V V V V V (Zc 13 V V V V V (Zc 14 V V V V V (Zc 15 V V V V V (Za 16 V V V (Zl V V V (Za 17 V V V (Zf V V (Zc 18 V V V V V (Zc 19 V V V V V (Zc 20 V V V V V (Zc 21 V V V V V (Zc 22 V V V V V ?_)))))))))))))
   refine Za 23 V V V (Zl V V V (Za 24 V V V (Zf V V (Zc 25 V V V V V (Zc 26 V V V V V (Zc 27 V V V V V (Zc 28 V V V V V (Zc 29 V V V V V (Za 30 V V V (Zl V V V (Za 4 V V V (Ze V V (Xg (Xj V ?_ by5 by3))))))))))))))
   simp_all
  skip
  refine Zi 11 V V V V V (Zg V tf_24_1 V V (Zi 12 V V V V V (Zk V ta_9 V V (Zi 13 V V V V V (Zg V tf_24_1 V V (Zi 14 V V V V V (Zk V ta_9 V V (Zi 15 V V V V V (op_seql V V V ?_))))))))); intro c15 h15
  refine Za 16 V V V (Zl V V V (Za 17 V V V (Zf V V ?_)))
  rcases Zj h15 with ⟨rfl, g15⟩ | ⟨rfl, g15⟩
  ·skip
   refine Zc 18 V V V V V (Zc 19 V V V V V (Zc 20 V V V V V (Zc 21 V V V V V (Zc 22 V V V V V (Za 23 V V V (Zl V V V (Za 24 V V V (Zf V V (Zc 25 V V V V V (Zc 26 V V V V V (Zc 27 V V V V V (Zc 28 V V V V V (Zc 29 V V V V V ?_)))))))))))))
   refine Za 30 V V V (Zl V V V (Za 4 V V V (Ze V V (Xg (Xj V ?_ by5 by3)))))
   simp_all
  skip
  refine Zi 18 V V V V V (Zg V tf_24_2 V V (Zi 19 V V V V V (Zk V ta_3 V V (Zi 20 V V V V V (Zg V tf_24_2 V V (Zi 21 V V V V V (Zk V ta_3 V V (Zi 22 V V V V V (op_eql V V V ?_))))))))); intro c22 h22
  refine Za 23 V V V (Zl V V V (Za 24 V V V (Zf V V ?_)))
  rcases Zj h22 with ⟨rfl, g22⟩ | ⟨rfl, g22⟩
  ·skip
   refine Zc 25 V V V V V (Zc 26 V V V V V (Zc 27 V V V V V (Zc 28 V V V V V (Zc 29 V V V V V (Za 30 V V V (Zl V V V (Za 4 V V V (Ze V V (Xg (Xj V ?_ by5 by3))))))))))
   simp_all
  skip
  refine Zi 25 V V V V V (Zg V Xa V V (Zi 26 V V V V V (Zk V Xc V V (Zi 27 V V V V V (Zg V Xa V V (Zi 28 V V V V V (Zk V Xc V V (Zi 29 V V V V V (Yh (xs := [.tmp 26, .tmp 28, .func 25]) V V (H) by1 ?_))))))))); intro c29 h29
  refine Za 30 V V V (Zl V V V (Za 4 V V V (Ze V V (Xg (Xj V ?_ by5 by3)))))
  simp_all
 intro c4 h4
 exact Zb (Zx (Zv V V (Xi _) by3 ⟨⟨_, h4, V⟩, V⟩))
termination_by SizeOf.sizeOf a
decreasing_by
 have := List.sizeOf_lt_of_mem hx
 simp; omega
theorem tSamePat_c (a : Pa) : ∀ b : Pa, BCall Tryz.prog 28 [.agg a.cells, .agg b.cells] (a.bare = b.bare) := by
 obtain ⟨k1, s1, n1, ks1, p1⟩ := a
 rintro ⟨k2, s2, n2, ks2, p2⟩
 have H := Eqs_Pa Pa.bare 28 ks1 ks2 (fun x hx y => tSamePat_c x y)
 refine Zo Tryz.func28 V (by kernel_rfl) V (Xk V) ?_
 refine Ya (Zh (Zd (Za 2 V V V (Yl (cs' := [_, _, _, _, _]) V V V V (Za 3 V V V (Yl (cs' := [_, _, _, _, _]) V V V V (Za 4 V V V (Ze V V (Xg (Zb (Zh (Xe 4 ((Pa.mk k1 s1 n1 ks1 p1).bare = (Pa.mk k2 s2 n2 ks2 p2).bare) ?_ _ _ V ?_))))))))))))
 ·skip
  refine Za 5 V V V (Zg V tf_67_0 V V (Za 6 V V V (Zk V ta_3 V V (Za 7 V V V (Zg V tf_67_0 V V (Za 8 V V V (Zk V ta_3 V V (Za 9 V V V (op_eql V V V ?_))))))))); intro c9 h9
  refine Za 10 V V V (Zf V V ?_)
  rcases Zj h9 with ⟨rfl, g9⟩ | ⟨rfl, g9⟩
  ·skip
   refine Zc 11 V V V V V (Zc 12 V V V V V (Zc 13 V V V V V (Zc 14 V V V V V (Zc 15 V V V V V (Za 16 V V V (Zl V V V (Za 17 V V V (Zf V V (Zc 18 V V V V V (Zc 19 V V V V V (Zc 20 V V V V V (Zc 21 V V V V V (Zc 22 V V V V V ?_)))))))))))))
   refine Za 23 V V V (Zl V V V (Za 24 V V V (Zf V V (Zc 25 V V V V V (Zc 26 V V V V V (Zc 27 V V V V V (Zc 28 V V V V V (Zc 29 V V V V V (Za 30 V V V (Zl V V V (Za 4 V V V (Ze V V (Xg (Xj V ?_ by5 by3))))))))))))))
   rw [Pa.bare_iff]; simp_all
  skip
  refine Zi 11 V V V V V (Zg V tf_67_1 V V (Zi 12 V V V V V (Zk V ta_9 V V (Zi 13 V V V V V (Zg V tf_67_1 V V (Zi 14 V V V V V (Zk V ta_9 V V (Zi 15 V V V V V (op_seql V V V ?_))))))))); intro c15 h15
  refine Za 16 V V V (Zl V V V (Za 17 V V V (Zf V V ?_)))
  rcases Zj h15 with ⟨rfl, g15⟩ | ⟨rfl, g15⟩
  ·skip
   refine Zc 18 V V V V V (Zc 19 V V V V V (Zc 20 V V V V V (Zc 21 V V V V V (Zc 22 V V V V V (Za 23 V V V (Zl V V V (Za 24 V V V (Zf V V (Zc 25 V V V V V (Zc 26 V V V V V (Zc 27 V V V V V (Zc 28 V V V V V (Zc 29 V V V V V ?_)))))))))))))
   refine Za 30 V V V (Zl V V V (Za 4 V V V (Ze V V (Xg (Xj V ?_ by5 by3)))))
   rw [Pa.bare_iff]; simp_all
  skip
  refine Zi 18 V V V V V (Zg V tf_67_2 V V (Zi 19 V V V V V (Zk V ta_2 V V (Zi 20 V V V V V (Zg V tf_67_2 V V (Zi 21 V V V V V (Zk V ta_2 V V (Zi 22 V V V V V (op_eql V V V ?_))))))))); intro c22 h22
  refine Za 23 V V V (Zl V V V (Za 24 V V V (Zf V V ?_)))
  rcases Zj h22 with ⟨rfl, g22⟩ | ⟨rfl, g22⟩
  ·skip
   refine Zc 25 V V V V V (Zc 26 V V V V V (Zc 27 V V V V V (Zc 28 V V V V V (Zc 29 V V V V V (Za 30 V V V (Zl V V V (Za 4 V V V (Ze V V (Xg (Xj V ?_ by5 by3))))))))))
   rw [Pa.bare_iff]; simp_all
  skip
  refine Zi 25 V V V V V (Zg V tf_67_3 V V (Zi 26 V V V V V (Zk V ta_65 V V (Zi 27 V V V V V (Zg V tf_67_3 V V (Zi 28 V V V V V (Zk V ta_65 V V (Zi 29 V V V V V (Yh (xs := [.tmp 26, .tmp 28, .func 28]) V V (H) by1 ?_))))))))); intro c29 h29
  refine Za 30 V V V (Zl V V V (Za 4 V V V (Ze V V (Xg (Xj V ?_ by5 by3)))))
  rw [Pa.bare_iff]; simp_all
 intro c4 h4
 exact Zb (Zx (Zv V V (Xi _) by3 ⟨⟨_, h4, V⟩, V⟩))
termination_by SizeOf.sizeOf a
decreasing_by exact Pa.lt_kid hx
theorem rSamePat_c (a : Pa) : ∀ b : Pa, BCall Tryz.prog 36 [.agg a.cells, .agg b.cells] (a.bare = b.bare) := by
 obtain ⟨k1, s1, n1, ks1, p1⟩ := a
 rintro ⟨k2, s2, n2, ks2, p2⟩
 have IH : ∀ x ∈ ks1, ∀ y : Pa, BCall Tryz.prog 36 [.agg x.cells, .agg y.cells] (x.bare = y.bare) := fun x hx y => rSamePat_c x y
 have hl1 := Pa.cellss_len ks1
 have hl2 := Pa.cellss_len ks2
 refine Zo Tryz.func36 V (by kernel_rfl) V (Xk V) ?_
 refine Ya ?_
 refine c_lena (t := 0) (j := 3) V V (.seq _ _) (fun hmax => ?_)
 refine Zh (Zd (Za 2 V V V (Yl (cs' := [_, _, _, _, _]) V V V V (Za 3 V V V (Yl (cs' := [_, _, _, _, _]) V V V V (Za 4 V V V (Ze V V (Xg (Zb (Zh (Zh (Xe 33 (¬ (k1 = k2 ∧ s1 = s2 ∧ n1 = n2 ∧ ks1.length = ks2.length)) ?_ _ _ V ?_))))))))))))
 ·skip
  refine Za 6 V V V (Zg V tf_67_0 V V (Za 7 V V V (Zk V ta_3 V V (Za 8 V V V (Zg V tf_67_0 V V (Za 9 V V V (Zk V ta_3 V V (Za 10 V V V (Xd V V V ?_))))))))); intro c10 h10
  refine Za 11 V V V (Zf V V ?_)
  rcases Zj h10 with ⟨rfl, g10⟩ | ⟨rfl, g10⟩
  ·skip
   refine Zi 12 V V V V V (Zg V tf_67_1 V V (Zi 13 V V V V V (Zk V ta_9 V V (Zi 14 V V V V V (Zg V tf_67_1 V V (Zi 15 V V V V V (Zk V ta_9 V V (Zi 16 V V V V V (op_sneq V V V ?_))))))))); intro c16 h16
   refine Za 17 V V V (Zl V V V (Za 18 V V V (Zf V V ?_)))
   rcases Zj h16 with ⟨rfl, g16⟩ | ⟨rfl, g16⟩
   ·skip
    refine Zi 19 V V V V V (Zg V tf_67_2 V V (Zi 20 V V V V V (Zk V ta_2 V V (Zi 21 V V V V V (Zg V tf_67_2 V V (Zi 22 V V V V V (Zk V ta_2 V V (Zi 23 V V V V V (Xd V V V ?_))))))))); intro c23 h23
    refine Za 24 V V V (Zl V V V (Za 25 V V V (Zf V V ?_)))
    rcases Zj h23 with ⟨rfl, g23⟩ | ⟨rfl, g23⟩
    ·skip
     refine Zi 26 V V V V V (Zg V tf_67_3 V V (Zi 27 V V V V V (Zk V ta_65 V V ?_)))
     refine Zi 28 V V V V V (Yi V tu_65 V (.seq _ _) (fun n28 => ?_))
     refine Zi 29 V V V V V (Zg V tf_67_3 V V (Zi 30 V V V V V (Zk V ta_65 V V ?_)))
     refine Zi 31 V V V V V (Yi V tu_65 V (.seq _ _) (fun n31 => ?_))
     refine Zi 32 V V V V V (Xd V V V ?_); intro c32 h32
     refine Za 33 V V V (Zl V V V (Xg (Xj V ?_ by5 by3)))
     simp_all; omega
    skip
    refine Zc 26 V V V V V (Zc 27 V V V V V (Zc 28 V V V V V (Zc 29 V V V V V (Zc 30 V V V V V (Zc 31 V V V V V (Zc 32 V V V V V (Za 33 V V V (Zl V V V (Xg (Xj V ?_ by5 by3))))))))))
    simp_all; done
   skip
   refine Zc 19 V V V V V (Zc 20 V V V V V (Zc 21 V V V V V (Zc 22 V V V V V (Zc 23 V V V V V (Za 24 V V V (Zl V V V (Za 25 V V V (Zf V V (Zc 26 V V V V V (Zc 27 V V V V V (Zc 28 V V V V V (Zc 29 V V V V V (Zc 30 V V V V V ?_)))))))))))))
   refine Zc 31 V V V V V (Zc 32 V V V V V (Za 33 V V V (Zl V V V (Xg (Xj V ?_ by5 by3)))))
   simp_all; done
  skip
  refine Zc 12 V V V V V (Zc 13 V V V V V (Zc 14 V V V V V (Zc 15 V V V V V (Zc 16 V V V V V (Za 17 V V V (Zl V V V (Za 18 V V V (Zf V V (Zc 19 V V V V V (Zc 20 V V V V V (Zc 21 V V V V V (Zc 22 V V V V V (Zc 23 V V V V V ?_)))))))))))))
  refine Za 24 V V V (Zl V V V (Za 25 V V V (Zf V V (Zc 26 V V V V V (Zc 27 V V V V V (Zc 28 V V V V V (Zc 29 V V V V V (Zc 30 V V V V V (Zc 31 V V V V V (Zc 32 V V V V V (Za 33 V V V (Zl V V V (Xg (Xj V ?_ by5 by3))))))))))))))
  simp_all; done
 intro c33 h33
 refine Zb ?_
 rcases Zj h33 with ⟨rfl, g33⟩ | ⟨rfl, g33⟩
 ·refine Zp V (Yb (Zb (Zh (Zh (Zd (Za 5 V V V (Ze V V (Xg (Zb (Yc ?_))))))))))
  refine c_loop (σ := Nat) (fun zz => match zz with | i => [(2, .cptr (Pa.mk k1 s1 n1 ks1 p1).cells), (3, .cptr (Pa.mk k2 s2 n2 ks2 p2).cells), (5, .val (.int .i64 i))]) (fun zz => match zz with | i => []) (fun zz => match zz with | i => i ≤ ks1.length ∧ Upto (ks1.map Pa.bare) (ks2.map Pa.bare) i) (fun zz => match zz with | i => ks1.length - i) (0) ?_ ?_ ?_ ?_
  ·exact ⟨by omega, Upto.zero _ _⟩
  ·exact by4
  ·exact by3
  rintro i hI
  try dsimp only [List.cons_append, List.nil_append] at hI ⊢
  obtain ⟨hi, hu⟩ := hI
  obtain ⟨e1, e2, e3, e4⟩ := Classical.not_not.1 g33
  refine Zh (Zh (Zd (Za 34 V V V (Zf V V (Za 35 V V V (Zg V tf_67_3 V V (Za 36 V V V (Zk V ta_65 V V ?_))))))))
  refine Za 37 V V V (Yi V tu_65 V (.seq _ _) (fun n37 => ?_))
  refine Za 38 V V V (Yr V V V ?_); intro c38 h38
  refine Xg (Zb ?_)
  rcases Zj h38 with ⟨rfl, g38⟩ | ⟨rfl, g38⟩
  ·refine Zp V (Yu (Yw (x_lp (Yv (Zb (Zh (Zd (Za 4 V V V (Ze V V (Xg (Zb (Zx (Zv V V (Xi _) by3 ⟨⟨_, iff_t ?_, V⟩, V⟩)))))))))))))
   rw [Pa.bare_iff]
   exact ⟨e1, e2, e3, hu.eq (by simpa using e4) (by simp; omega)⟩
  refine Zq V (Yb (Zb (Zh (Yc (Zh ?_)))))
  obtain ⟨⟨xk, xs, xn, xks, xp⟩, hx⟩ := Yj (l := ks1) (i := i) (by omega)
  obtain ⟨⟨yk, ys, yn, yks, yp⟩, hy⟩ := Yj (l := ks2) (i := i) (by omega)
  have hcx := Pa.cellss_get hx
  have hcy := Pa.cellss_get hy
  refine c_drawn tmix V (Zm 41 V V (Zg V tf_67_3 V V ⟨V, V⟩) ?_)
  refine Zm 42 V V (Zk V ta_65 V V ⟨V, V⟩) ?_
  refine Zm 43 V V (Zf V V ⟨V, V⟩) ?_
  refine Zm 44 V V (Zz V te_65 V (.seq _ _) V V (by assumption) ⟨V, V⟩) ?_
  refine Zm 45 V V (Zn (cs' := [_, _, _, _, _]) V ta_67 V V V ⟨V, V⟩) ?_
  refine Zm 46 V V (Zg V tf_67_3 V V ⟨V, V⟩) ?_
  refine Zm 47 V V (Zk V ta_65 V V ⟨V, V⟩) ?_
  refine Zm 48 V V (Zf V V ⟨V, V⟩) ?_
  refine Zm 49 V V (Zz V te_65 V (.seq _ _) V V (by assumption) ⟨V, V⟩) ?_
  refine Zm 50 V V (Zn (cs' := [_, _, _, _, _]) V ta_67 V V V ⟨V, V⟩) ?_
  refine DOps.cm 51 V V (fun _ q => Yh (xs := [.tmp 45, .tmp 50]) V V (IH _ (Xp hx) ⟨yk, ys, yn, yks, yp⟩) by1 q) ?_; intro c51 h51
  refine DOps.cm 52 V V (fun _ q => Yn V V q) ?_; intro c52 h52
  try replace h52 := nott h52 h51
  show AGo _ _ _ _ _ _ _
  refine Zb ?_
  rcases Zj h52 with ⟨rfl, g52⟩ | ⟨rfl, g52⟩
  ·refine Zp V (Yb (Yq (Zb (Zd (Za 39 V V V (Zf V V (Za 40 V V V (Yp V V V (Xo _ (by omega)) ?_))))))))
   refine Za 5 V V V (Ze V V (Xg (go_lp ?_)))
   exact ⟨i + 1, ⟨by omega, upto_map Pa.bare hu hx hy (Classical.not_not.1 g52)⟩, by simp; omega, by4, by3⟩
  refine Zq V (Zh (Zd (Za 4 V V V (Ze V V (Xg (Zb (Zx ?_)))))))
  refine Zv V V (Xi _) by3 ⟨⟨_, iff_f (fun q => ?_), V⟩, V⟩
  rw [Pa.bare_iff] at q
  exact map_ne Pa.bare hx hy g52 q.2.2.2
 refine Zq V (Zh (Zd (Za 4 V V V (Ze V V (Xg (Zb (Zx ?_)))))))
 refine Zv V V (Xi _) by3 ⟨⟨_, iff_f (fun q => g33 ?_), V⟩, V⟩
 rw [Pa.bare_iff] at q
 exact ⟨q.1, q.2.1, q.2.2.1, by simpa using congrArg List.length q.2.2.2⟩
termination_by SizeOf.sizeOf a
decreasing_by exact Pa.lt_kid hx
theorem EqF_Co {β : Type} (f : Co → β) (g : FuncId) (xs ys : List Co) (hg : ∀ x ∈ xs, ∀ y, BCall Tryz.prog g [.agg x.cells, .agg y.cells] (f x = f y)) : BCall Tryz.prog 31 [.seq 11 (Co.cellss xs), .seq 11 (Co.cellss ys), .clo (.func g) [] []] (xs.map f = ys.map f) := by
 have hlx := Co.cellss_len xs
 have hly := Co.cellss_len ys
 refine Zo Tryz.func31 V (by kernel_rfl) V (Xk V) ?_
 refine Ya ?_
 refine c_lens (t := 0) V (.seq _ _) (fun hmax => ?_)
 refine Zh (Zd (Za 6 V V V (Ze V V (Xg (Zb (Zh (Zh (Zd (Za 10 V V V (Zf V V ?_))))))))))
 refine Za 11 V V V (Yi V tu_25 V (.seq _ _) (fun n11 => ?_))
 refine Za 12 V V V (Zf V V ?_)
 refine Za 13 V V V (Yi V tu_25 V (.seq _ _) (fun n13 => ?_))
 refine Za 14 V V V (Xd V V V ?_); intro c14 h14
 refine Xg (Zb ?_)
 rcases Zj h14 with ⟨rfl, g14⟩ | ⟨rfl, g14⟩
 ·refine Zp V (Yb (Zb (Zh (Zh (Zd (Za 15 V V V (Zf V V ?_)))))))
  refine Za 16 V V V (Yi V tu_25 V (.seq _ _) (fun n16 => ?_))
  refine Za 17 V V V (Zf V V (Xg (Zb (Yc ?_))))
  apply Xf [0, 3, 4, 5, 6, 7, 8, 9, 10, 11, 12, 13, 14, 17, 18, 19, 20, 21, 22, 23, 24, 25, 26, 27, 28, 29, 30, 31] (σ := Nat) (fun zz => match zz with | i => [(17, .val (.int .i64 i))]) (fun zz => match zz with | i => i ≤ xs.length ∧ Upto (xs.map f) (ys.map f) i) (fun zz => match zz with | i => xs.length - i) (0)
  ·repeat' (first | exact Xn | apply Xl rfl | apply Xm rfl)
  ·exact ⟨by omega, Upto.zero _ _⟩
  ·exact by4
  rintro i hI
  try dsimp only [List.cons_append, List.nil_append] at hI ⊢
  obtain ⟨hi, hu⟩ := hI
  refine Zh (Zd (Za 18 V V V (Yr V V V ?_))); intro c18 h18
  refine Xg (Zb (Zh ?_))
  rcases Zj h18 with ⟨rfl, g18⟩ | ⟨rfl, g18⟩
  ·refine Zp V (Yu (Yw (x_lp (Yv (Zb (Zh (Zd (Za 6 V V V (Ze V V (Xg (Zb (Zx ?_))))))))))))
   exact Zv V V (Xi _) by3 ⟨⟨_, iff_t (hu.eq (by simp; omega) (by simp; omega)), V⟩, V⟩
  refine Zq V (Yb (Zb (Zh (Yc (Zh ?_)))))
  obtain ⟨⟨qk, qs, qn, ⟨qtk, qts, qtn, qtl⟩, qus, qks, qal, qbs⟩, hxq⟩ := Yj (l := xs) (i := i) by6
  have hcq := Co.cellss_get hxq
  have hmq := Xp hxq
  obtain ⟨z, hxz⟩ := Yj (l := ys) (i := i) (by omega)
  have hcz := Co.cellss_get hxz
  have HGz := hg _ hmq z
  obtain ⟨zk,  zs,  zn,  ⟨ztk,  zts,  ztn,  ztl⟩,  zus,  zks,  zal,  zbs⟩ := z
  refine Zd (Za 19 V V V (Zf V V (Za 20 V V V (Zz V te_25 V (.seq _ _) V V (hcq) (Za 21 V V V (Zn (cs' := [_, _, _, _, _, _, _, _, _, _, _]) V Yz V V V (Za 8 V V V (Zy (cs' := [_, _, _, _, _, _, _, _, _, _, _]) V tz_29 V V ?_)))))))); intro b8
  refine Za 7 V V V (Ze V V (Yf V V (Zw (cs' := [_, _, _, _, _, _, _, _, _, _, _]) (i := 0) V ts_29 V V V V V (Xk V) V (Xg (Zb (Zh (Zd (Za 22 V V V (Zf V V (Za 23 V V V (Zf V V (Za 24 V V V (Zz V te_25 V (.seq _ _) V V (hcz) (Za 25 V V V (Zn (cs' := [_, _, _, _, _, _, _, _, _, _, _]) V Yz V V V (Za 9 V V V (Zy (cs' := [_, _, _, _, _, _, _, _, _, _, _]) V tz_29 V V ?_))))))))))))))))); intro b9
  refine Yf V V (Zw (cs' := [_, _, _, _, _, _, _, _, _, _, _]) (i := 0) V ts_29 V V V V V (Xk V) V (Xg (Zb (Zh (Zd (Za 26 V V V (Zf V V (Za 27 V V V (Zt (cs' := [_, _, _, _, _, _, _, _, _, _, _]) (i := 1) V Yz V V V V (Za 28 V V V (Zt (cs' := [_, _, _, _, _, _, _, _, _, _, _]) (i := 0) V Yz V V V V (Za 29 V V V (op_callvb (xs := [.tmp 27, .tmp 28]) V V V (HGz) by1 ?_))))))))))))); intro c29 h29
  refine Za 30 V V V (Yn V V ?_); intro c30 h30
  try replace h30 := nott h30 h29
  refine Xg (Zb ?_)
  rcases Zj h30 with ⟨rfl, g30⟩ | ⟨rfl, g30⟩
  ·refine Zp V (Yb (Yq (Zb (Zd (Za 31 V V V (Yp V V V (Xo _ (by omega)) ?_))))))
   refine Za 17 V V V (Zf V V (Xg (go_lp ?_)))
   exact ⟨i + 1, ⟨by omega, upto_map f hu hxq hxz (Classical.not_not.1 g30)⟩, by simp; omega, by4, by3⟩
  exact Zq V (Zh (Zd (Za 6 V V V (Ze V V (Xg (Zb (Zx (Zv V V (Xi _) by3 ⟨⟨_, iff_f (map_ne f hxq hxz g30), V⟩, V⟩))))))))
 exact Zq V (Zh (Zd (Za 6 V V V (Ze V V (Xg (Zb (Zx (Zv V V (Xi _) by3 ⟨⟨_, iff_f (map_len_ne f (by omega)), V⟩, V⟩))))))))
theorem EqF_Ca {β : Type} (f : Ca → β) (g : FuncId) (xs ys : List Ca) (hg : ∀ x ∈ xs, ∀ y, BCall Tryz.prog g [.agg x.cells, .agg y.cells] (f x = f y)) : BCall Tryz.prog 32 [.seq 16 (Ca.cellss xs), .seq 16 (Ca.cellss ys), .clo (.func g) [] []] (xs.map f = ys.map f) := by
 have hlx := Ca.cellss_len xs
 have hly := Ca.cellss_len ys
 refine Zo Tryz.func32 V (by kernel_rfl) V (Xk V) ?_
 refine Ya ?_
 refine c_lens (t := 0) V (.seq _ _) (fun hmax => ?_)
 refine Zh (Zd (Za 6 V V V (Ze V V (Xg (Zb (Zh (Zh (Zd (Za 10 V V V (Zf V V ?_))))))))))
 refine Za 11 V V V (Yi V tu_26 V (.seq _ _) (fun n11 => ?_))
 refine Za 12 V V V (Zf V V ?_)
 refine Za 13 V V V (Yi V tu_26 V (.seq _ _) (fun n13 => ?_))
 refine Za 14 V V V (Xd V V V ?_); intro c14 h14
 refine Xg (Zb ?_)
 rcases Zj h14 with ⟨rfl, g14⟩ | ⟨rfl, g14⟩
 ·refine Zp V (Yb (Zb (Zh (Zh (Zd (Za 15 V V V (Zf V V ?_)))))))
  refine Za 16 V V V (Yi V tu_26 V (.seq _ _) (fun n16 => ?_))
  refine Za 17 V V V (Zf V V (Xg (Zb (Yc ?_))))
  apply Xf [0, 3, 4, 5, 6, 7, 8, 9, 10, 11, 12, 13, 14, 17, 18, 19, 20, 21, 22, 23, 24, 25, 26, 27, 28, 29, 30, 31] (σ := Nat) (fun zz => match zz with | i => [(17, .val (.int .i64 i))]) (fun zz => match zz with | i => i ≤ xs.length ∧ Upto (xs.map f) (ys.map f) i) (fun zz => match zz with | i => xs.length - i) (0)
  ·repeat' (first | exact Xn | apply Xl rfl | apply Xm rfl)
  ·exact ⟨by omega, Upto.zero _ _⟩
  ·exact by4
  rintro i hI
  try dsimp only [List.cons_append, List.nil_append] at hI ⊢
  obtain ⟨hi, hu⟩ := hI
  refine Zh (Zd (Za 18 V V V (Yr V V V ?_))); intro c18 h18
  refine Xg (Zb (Zh ?_))
  rcases Zj h18 with ⟨rfl, g18⟩ | ⟨rfl, g18⟩
  ·refine Zp V (Yu (Yw (x_lp (Yv (Zb (Zh (Zd (Za 6 V V V (Ze V V (Xg (Zb (Zx ?_))))))))))))
   exact Zv V V (Xi _) by3 ⟨⟨_, iff_t (hu.eq (by simp; omega) (by simp; omega)), V⟩, V⟩
  refine Zq V (Yb (Zb (Zh (Yc (Zh ?_)))))
  obtain ⟨⟨⟨qqk, qqs, qqn, qql, qqp⟩, ⟨qk, qs, qn, ⟨qtk, qts, qtn, qtl⟩, qus, qks, qal, qbs⟩⟩, hxq⟩ := Yj (l := xs) (i := i) by6
  have hcq := Ca.cellss_get hxq
  have hmq := Xp hxq
  obtain ⟨z, hxz⟩ := Yj (l := ys) (i := i) (by omega)
  have hcz := Ca.cellss_get hxz
  have HGz := hg _ hmq z
  obtain ⟨⟨zqk,  zqs,  zqn,  zql,  zqp⟩,  ⟨zk,  zs,  zn,  ⟨ztk,  zts,  ztn,  ztl⟩,  zus,  zks,  zal,  zbs⟩⟩ := z
  refine Zd (Za 19 V V V (Zf V V (Za 20 V V V (Zz V te_26 V (.seq _ _) V V (hcq) (Za 21 V V V (Zn (cs' := [_, _, _, _, _, _, _, _, _, _, _, _, _, _, _, _]) V ta_69 V V V (Za 8 V V V (Zy (cs' := [_, _, _, _, _, _, _, _, _, _, _, _, _, _, _, _]) V tz_69 V V ?_)))))))); intro b8
  refine Za 7 V V V (Ze V V (Yf V V (Zw (cs' := [_, _, _, _, _, _, _, _, _, _, _, _, _, _, _, _]) (i := 0) V ts_69 V V V V V (Xk V) V (Xg (Zb (Zh (Zd (Za 22 V V V (Zf V V (Za 23 V V V (Zf V V (Za 24 V V V (Zz V te_26 V (.seq _ _) V V (hcz) (Za 25 V V V (Zn (cs' := [_, _, _, _, _, _, _, _, _, _, _, _, _, _, _, _]) V ta_69 V V V (Za 9 V V V (Zy (cs' := [_, _, _, _, _, _, _, _, _, _, _, _, _, _, _, _]) V tz_69 V V ?_))))))))))))))))); intro b9
  refine Yf V V (Zw (cs' := [_, _, _, _, _, _, _, _, _, _, _, _, _, _, _, _]) (i := 0) V ts_69 V V V V V (Xk V) V (Xg (Zb (Zh (Zd (Za 26 V V V (Zf V V (Za 27 V V V (Zt (cs' := [_, _, _, _, _, _, _, _, _, _, _, _, _, _, _, _]) (i := 1) V ta_69 V V V V (Za 28 V V V (Zt (cs' := [_, _, _, _, _, _, _, _, _, _, _, _, _, _, _, _]) (i := 0) V ta_69 V V V V (Za 29 V V V (op_callvb (xs := [.tmp 27, .tmp 28]) V V V (HGz) by1 ?_))))))))))))); intro c29 h29
  refine Za 30 V V V (Yn V V ?_); intro c30 h30
  try replace h30 := nott h30 h29
  refine Xg (Zb ?_)
  rcases Zj h30 with ⟨rfl, g30⟩ | ⟨rfl, g30⟩
  ·refine Zp V (Yb (Yq (Zb (Zd (Za 31 V V V (Yp V V V (Xo _ (by omega)) ?_))))))
   refine Za 17 V V V (Zf V V (Xg (go_lp ?_)))
   exact ⟨i + 1, ⟨by omega, upto_map f hu hxq hxz (Classical.not_not.1 g30)⟩, by simp; omega, by4, by3⟩
  exact Zq V (Zh (Zd (Za 6 V V V (Ze V V (Xg (Zb (Zx (Zv V V (Xi _) by3 ⟨⟨_, iff_f (map_ne f hxq hxz g30), V⟩, V⟩))))))))
 exact Zq V (Zh (Zd (Za 6 V V V (Ze V V (Xg (Zb (Zx (Zv V V (Xi _) by3 ⟨⟨_, iff_f (map_len_ne f (by omega)), V⟩, V⟩))))))))
theorem EqF_Cb {β : Type} (f : Cb → β) (g : FuncId) (xs ys : List Cb) (hg : ∀ x ∈ xs, ∀ y, BCall Tryz.prog g [.agg x.cells, .agg y.cells] (f x = f y)) : BCall Tryz.prog 33 [.seq 17 (Cb.cellss xs), .seq 17 (Cb.cellss ys), .clo (.func g) [] []] (xs.map f = ys.map f) := by
 have hlx := Cb.cellss_len xs
 have hly := Cb.cellss_len ys
 refine Zo Tryz.func33 V (by kernel_rfl) V (Xk V) ?_
 refine Ya ?_
 refine c_lens (t := 0) V (.seq _ _) (fun hmax => ?_)
 refine Zh (Zd (Za 6 V V V (Ze V V (Xg (Zb (Zh (Zh (Zd (Za 10 V V V (Zf V V ?_))))))))))
 refine Za 11 V V V (Yi V tu_27 V (.seq _ _) (fun n11 => ?_))
 refine Za 12 V V V (Zf V V ?_)
 refine Za 13 V V V (Yi V tu_27 V (.seq _ _) (fun n13 => ?_))
 refine Za 14 V V V (Xd V V V ?_); intro c14 h14
 refine Xg (Zb ?_)
 rcases Zj h14 with ⟨rfl, g14⟩ | ⟨rfl, g14⟩
 ·refine Zp V (Yb (Zb (Zh (Zh (Zd (Za 15 V V V (Zf V V ?_)))))))
  refine Za 16 V V V (Yi V tu_27 V (.seq _ _) (fun n16 => ?_))
  refine Za 17 V V V (Zf V V (Xg (Zb (Yc ?_))))
  apply Xf [0, 3, 4, 5, 6, 7, 8, 9, 10, 11, 12, 13, 14, 17, 18, 19, 20, 21, 22, 23, 24, 25, 26, 27, 28, 29, 30, 31] (σ := Nat) (fun zz => match zz with | i => [(17, .val (.int .i64 i))]) (fun zz => match zz with | i => i ≤ xs.length ∧ Upto (xs.map f) (ys.map f) i) (fun zz => match zz with | i => xs.length - i) (0)
  ·repeat' (first | exact Xn | apply Xl rfl | apply Xm rfl)
  ·exact ⟨by omega, Upto.zero _ _⟩
  ·exact by4
  rintro i hI
  try dsimp only [List.cons_append, List.nil_append] at hI ⊢
  obtain ⟨hi, hu⟩ := hI
  refine Zh (Zd (Za 18 V V V (Yr V V V ?_))); intro c18 h18
  refine Xg (Zb (Zh ?_))
  rcases Zj h18 with ⟨rfl, g18⟩ | ⟨rfl, g18⟩
  ·refine Zp V (Yu (Yw (x_lp (Yv (Zb (Zh (Zd (Za 6 V V V (Ze V V (Xg (Zb (Zx ?_))))))))))))
   exact Zv V V (Xi _) by3 ⟨⟨_, iff_t (hu.eq (by simp; omega) (by simp; omega)), V⟩, V⟩
  refine Zq V (Yb (Zb (Zh (Yc (Zh ?_)))))
  obtain ⟨⟨qb, qvs, ⟨qwk, qws, qwn, qwl⟩, ⟨qk, qs, qn, ⟨qtk, qts, qtn, qtl⟩, qus, qks, qal, qbs⟩⟩, hxq⟩ := Yj (l := xs) (i := i) by6
  have hcq := Cb.cellss_get hxq
  have hmq := Xp hxq
  obtain ⟨z, hxz⟩ := Yj (l := ys) (i := i) (by omega)
  have hcz := Cb.cellss_get hxz
  have HGz := hg _ hmq z
  obtain ⟨zb,  zvs,  ⟨zwk,  zws,  zwn,  zwl⟩,  ⟨zk,  zs,  zn,  ⟨ztk,  zts,  ztn,  ztl⟩,  zus,  zks,  zal,  zbs⟩⟩ := z
  refine Zd (Za 19 V V V (Zf V V (Za 20 V V V (Zz V te_27 V (.seq _ _) V V (hcq) (Za 21 V V V (Zn (cs' := [_, _, _, _, _, _, _, _, _, _, _, _, _, _, _, _, _]) V ta_46 V V V (Za 8 V V V (Zy (cs' := [_, _, _, _, _, _, _, _, _, _, _, _, _, _, _, _, _]) V tz_46 V V ?_)))))))); intro b8
  refine Za 7 V V V (Ze V V (Yf V V (Zw (cs' := [_, _, _, _, _, _, _, _, _, _, _, _, _, _, _, _, _]) (i := 0) V ts_46 V V V V V (Xk V) V (Xg (Zb (Zh (Zd (Za 22 V V V (Zf V V (Za 23 V V V (Zf V V (Za 24 V V V (Zz V te_27 V (.seq _ _) V V (hcz) (Za 25 V V V (Zn (cs' := [_, _, _, _, _, _, _, _, _, _, _, _, _, _, _, _, _]) V ta_46 V V V (Za 9 V V V (Zy (cs' := [_, _, _, _, _, _, _, _, _, _, _, _, _, _, _, _, _]) V tz_46 V V ?_))))))))))))))))); intro b9
  refine Yf V V (Zw (cs' := [_, _, _, _, _, _, _, _, _, _, _, _, _, _, _, _, _]) (i := 0) V ts_46 V V V V V (Xk V) V (Xg (Zb (Zh (Zd (Za 26 V V V (Zf V V (Za 27 V V V (Zt (cs' := [_, _, _, _, _, _, _, _, _, _, _, _, _, _, _, _, _]) (i := 1) V ta_46 V V V V (Za 28 V V V (Zt (cs' := [_, _, _, _, _, _, _, _, _, _, _, _, _, _, _, _, _]) (i := 0) V ta_46 V V V V (Za 29 V V V (op_callvb (xs := [.tmp 27, .tmp 28]) V V V (HGz) by1 ?_))))))))))))); intro c29 h29
  refine Za 30 V V V (Yn V V ?_); intro c30 h30
  try replace h30 := nott h30 h29
  refine Xg (Zb ?_)
  rcases Zj h30 with ⟨rfl, g30⟩ | ⟨rfl, g30⟩
  ·refine Zp V (Yb (Yq (Zb (Zd (Za 31 V V V (Yp V V V (Xo _ (by omega)) ?_))))))
   refine Za 17 V V V (Zf V V (Xg (go_lp ?_)))
   exact ⟨i + 1, ⟨by omega, upto_map f hu hxq hxz (Classical.not_not.1 g30)⟩, by simp; omega, by4, by3⟩
  exact Zq V (Zh (Zd (Za 6 V V V (Ze V V (Xg (Zb (Zx (Zv V V (Xi _) by3 ⟨⟨_, iff_f (map_ne f hxq hxz g30), V⟩, V⟩))))))))
 exact Zq V (Zh (Zd (Za 6 V V V (Ze V V (Xg (Zb (Zx (Zv V V (Xi _) by3 ⟨⟨_, iff_f (map_len_ne f (by omega)), V⟩, V⟩))))))))
def I64 (x : Int) : Prop := -9223372036854775808 ≤ x ∧ x ≤ 9223372036854775807
theorem I64.of {x : Int} (h : IntKind.i64.min ≤ x ∧ x ≤ IntKind.i64.max) : I64 x := by
 have h1 : IntKind.i64.min = -9223372036854775808 := by decide
 have h2 : IntKind.i64.max = 9223372036854775807 := by decide
 rw [h1, h2] at h; exact h
def Ty.Lim (t : Ty) : Prop := t.kn ≤ 140737488355328
inductive Pr where
 | mk (c : ByteArray) (t : Ty)
def Pr.cells : Pr → List AV
 | .mk c t => .val (.string c) :: t.cells
def Pr.c : Pr → ByteArray | .mk c _ => c
def Pr.t : Pr → Ty | .mk _ t => t
def Pr.cellss (l : List Pr) : List (List AV) := l.map Pr.cells
theorem Pr.cellss_map (l : List Pr) : Pr.cellss l = l.map Pr.cells := rfl
theorem Pr.cellss_len (l : List Pr) : (Pr.cellss l).length = l.length := by simp [Pr.cellss]
theorem Pr.cellss_get {l : List Pr} {i : Nat} {x : Pr} (h : l[i]? = some x) : (Pr.cellss l)[i]? = some x.cells := by simp [Pr.cellss, h]
theorem Pr.cells_len (x : Pr) : x.cells.length = 5 := by
 obtain ⟨xc, ⟨xtk, xts, xtn, xtl⟩⟩ := x
 rfl
def Pr.cellsss (l : List (List Pr)) : List (List AV) := l.map fun x => [.seq 5 (Pr.cellss x)]
def Pr.Lim : Pr → Prop
 | .mk _ t => (t.Lim)
inductive Cn where
 | mk (s : ByteArray) (ts : List Ty) (p : Int)
def Cn.cells : Cn → List AV
 | .mk s ts p => .val (.string s) :: .seq 4 (Ty.cellss ts) :: [.val (.int .i64 p)]
def Cn.s : Cn → ByteArray | .mk s _ _ => s
def Cn.ts : Cn → List Ty | .mk _ ts _ => ts
def Cn.p : Cn → Int | .mk _ _ p => p
def Cn.cellss (l : List Cn) : List (List AV) := l.map Cn.cells
theorem Cn.cellss_map (l : List Cn) : Cn.cellss l = l.map Cn.cells := rfl
theorem Cn.cellss_len (l : List Cn) : (Cn.cellss l).length = l.length := by simp [Cn.cellss]
theorem Cn.cellss_get {l : List Cn} {i : Nat} {x : Cn} (h : l[i]? = some x) : (Cn.cellss l)[i]? = some x.cells := by simp [Cn.cellss, h]
theorem Cn.cells_len (x : Cn) : x.cells.length = 3 := by
 obtain ⟨xs, xts, xp⟩ := x
 rfl
def Cn.cellsss (l : List (List Cn)) : List (List AV) := l.map fun x => [.seq 3 (Cn.cellss x)]
def Cn.Lim : Cn → Prop
 | .mk _ ts _ => (ts.length ≤ 140737488355328 ∧ ∀ x ∈ ts, x.Lim)
inductive Da where
 | mk (s : ByteArray) (ps : List ByteArray) (cs : List Cn) (dv : List ByteArray) (p : Int)
def Da.cells : Da → List AV
 | .mk s ps cs dv p => .val (.string s) :: .seq 1 (strs ps) :: .seq 3 (Cn.cellss cs) :: .seq 1 (strs dv) :: [.val (.int .i64 p)]
def Da.s : Da → ByteArray | .mk s _ _ _ _ => s
def Da.ps : Da → List ByteArray | .mk _ ps _ _ _ => ps
def Da.cs : Da → List Cn | .mk _ _ cs _ _ => cs
def Da.dv : Da → List ByteArray | .mk _ _ _ dv _ => dv
def Da.p : Da → Int | .mk _ _ _ _ p => p
def Da.cellss (l : List Da) : List (List AV) := l.map Da.cells
theorem Da.cellss_map (l : List Da) : Da.cellss l = l.map Da.cells := rfl
theorem Da.cellss_len (l : List Da) : (Da.cellss l).length = l.length := by simp [Da.cellss]
theorem Da.cellss_get {l : List Da} {i : Nat} {x : Da} (h : l[i]? = some x) : (Da.cellss l)[i]? = some x.cells := by simp [Da.cellss, h]
theorem Da.cells_len (x : Da) : x.cells.length = 5 := by
 obtain ⟨xs, xps, xcs, xdv, xp⟩ := x
 rfl
def Da.cellsss (l : List (List Da)) : List (List AV) := l.map fun x => [.seq 5 (Da.cellss x)]
def Da.Lim : Da → Prop
 | .mk _ ps cs dv _ => (ps.length ≤ 140737488355328) ∧ (cs.length ≤ 140737488355328 ∧ ∀ x ∈ cs, x.Lim) ∧ (dv.length ≤ 140737488355328)
inductive Me where
 | mk (s : ByteArray) (t : Ty) (p : Int)
def Me.cells : Me → List AV
 | .mk s t p => .val (.string s) :: t.cells ++ ([.val (.int .i64 p)])
def Me.s : Me → ByteArray | .mk s _ _ => s
def Me.t : Me → Ty | .mk _ t _ => t
def Me.p : Me → Int | .mk _ _ p => p
def Me.cellss (l : List Me) : List (List AV) := l.map Me.cells
theorem Me.cellss_map (l : List Me) : Me.cellss l = l.map Me.cells := rfl
theorem Me.cellss_len (l : List Me) : (Me.cellss l).length = l.length := by simp [Me.cellss]
theorem Me.cellss_get {l : List Me} {i : Nat} {x : Me} (h : l[i]? = some x) : (Me.cellss l)[i]? = some x.cells := by simp [Me.cellss, h]
theorem Me.cells_len (x : Me) : x.cells.length = 6 := by
 obtain ⟨xs, ⟨xtk, xts, xtn, xtl⟩, xp⟩ := x
 rfl
def Me.cellsss (l : List (List Me)) : List (List AV) := l.map fun x => [.seq 6 (Me.cellss x)]
def Me.Lim : Me → Prop
 | .mk _ t _ => (t.Lim)
inductive Cl where
 | mk (s : ByteArray) (v : ByteArray) (su : List ByteArray) (ms : List Me) (ds : List Bi) (p : Int)
def Cl.cells : Cl → List AV
 | .mk s v su ms ds p => .val (.string s) :: .val (.string v) :: .seq 1 (strs su) :: .seq 6 (Me.cellss ms) :: .seq 13 (Bi.cellss ds) :: [.val (.int .i64 p)]
def Cl.s : Cl → ByteArray | .mk s _ _ _ _ _ => s
def Cl.v : Cl → ByteArray | .mk _ v _ _ _ _ => v
def Cl.su : Cl → List ByteArray | .mk _ _ su _ _ _ => su
def Cl.ms : Cl → List Me | .mk _ _ _ ms _ _ => ms
def Cl.ds : Cl → List Bi | .mk _ _ _ _ ds _ => ds
def Cl.p : Cl → Int | .mk _ _ _ _ _ p => p
def Cl.cellss (l : List Cl) : List (List AV) := l.map Cl.cells
theorem Cl.cellss_map (l : List Cl) : Cl.cellss l = l.map Cl.cells := rfl
theorem Cl.cellss_len (l : List Cl) : (Cl.cellss l).length = l.length := by simp [Cl.cellss]
theorem Cl.cellss_get {l : List Cl} {i : Nat} {x : Cl} (h : l[i]? = some x) : (Cl.cellss l)[i]? = some x.cells := by simp [Cl.cellss, h]
theorem Cl.cells_len (x : Cl) : x.cells.length = 6 := by
 obtain ⟨xs, xv, xsu, xms, xds, xp⟩ := x
 rfl
def Cl.cellsss (l : List (List Cl)) : List (List AV) := l.map fun x => [.seq 6 (Cl.cellss x)]
def Cl.Lim : Cl → Prop
 | .mk _ _ su ms ds _ => (su.length ≤ 140737488355328) ∧ (ms.length ≤ 140737488355328 ∧ ∀ x ∈ ms, x.Lim) ∧ (ds.length ≤ 140737488355328 ∧ ∀ x ∈ ds, x.Lim)
inductive In where
 | mk (c : ByteArray) (hd : Ty) (cx : List Pr) (bs : List Bi) (p : Int)
def In.cells : In → List AV
 | .mk c hd cx bs p => .val (.string c) :: hd.cells ++ (.seq 5 (Pr.cellss cx) :: .seq 13 (Bi.cellss bs) :: [.val (.int .i64 p)])
def In.c : In → ByteArray | .mk c _ _ _ _ => c
def In.hd : In → Ty | .mk _ hd _ _ _ => hd
def In.cx : In → List Pr | .mk _ _ cx _ _ => cx
def In.bs : In → List Bi | .mk _ _ _ bs _ => bs
def In.p : In → Int | .mk _ _ _ _ p => p
def In.cellss (l : List In) : List (List AV) := l.map In.cells
theorem In.cellss_map (l : List In) : In.cellss l = l.map In.cells := rfl
theorem In.cellss_len (l : List In) : (In.cellss l).length = l.length := by simp [In.cellss]
theorem In.cellss_get {l : List In} {i : Nat} {x : In} (h : l[i]? = some x) : (In.cellss l)[i]? = some x.cells := by simp [In.cellss, h]
theorem In.cells_len (x : In) : x.cells.length = 8 := by
 obtain ⟨xc, ⟨xhdk, xhds, xhdn, xhdl⟩, xcx, xbs, xp⟩ := x
 rfl
def In.cellsss (l : List (List In)) : List (List AV) := l.map fun x => [.seq 8 (In.cellss x)]
def In.Lim : In → Prop
 | .mk _ hd cx bs _ => (hd.Lim) ∧ (cx.length ≤ 140737488355328 ∧ ∀ x ∈ cx, x.Lim) ∧ (bs.length ≤ 140737488355328 ∧ ∀ x ∈ bs, x.Lim)
inductive Pg where
 | mk (da : List Da) (cl : List Cl) (ins : List In) (bs : List Bi)
def Pg.cells : Pg → List AV
 | .mk da cl ins bs => .seq 5 (Da.cellss da) :: .seq 6 (Cl.cellss cl) :: .seq 8 (In.cellss ins) :: [.seq 13 (Bi.cellss bs)]
def Pg.da : Pg → List Da | .mk da _ _ _ => da
def Pg.cl : Pg → List Cl | .mk _ cl _ _ => cl
def Pg.ins : Pg → List In | .mk _ _ ins _ => ins
def Pg.bs : Pg → List Bi | .mk _ _ _ bs => bs
def Pg.cellss (l : List Pg) : List (List AV) := l.map Pg.cells
theorem Pg.cellss_map (l : List Pg) : Pg.cellss l = l.map Pg.cells := rfl
theorem Pg.cellss_len (l : List Pg) : (Pg.cellss l).length = l.length := by simp [Pg.cellss]
theorem Pg.cellss_get {l : List Pg} {i : Nat} {x : Pg} (h : l[i]? = some x) : (Pg.cellss l)[i]? = some x.cells := by simp [Pg.cellss, h]
theorem Pg.cells_len (x : Pg) : x.cells.length = 4 := by
 obtain ⟨xda, xcl, xins, xbs⟩ := x
 rfl
def Pg.cellsss (l : List (List Pg)) : List (List AV) := l.map fun x => [.seq 4 (Pg.cellss x)]
def Pg.Lim : Pg → Prop
 | .mk da cl ins bs => (da.length ≤ 140737488355328 ∧ ∀ x ∈ da, x.Lim) ∧ (cl.length ≤ 140737488355328 ∧ ∀ x ∈ cl, x.Lim) ∧ (ins.length ≤ 140737488355328 ∧ ∀ x ∈ ins, x.Lim) ∧ (bs.length ≤ 140737488355328 ∧ ∀ x ∈ bs, x.Lim)
inductive En where
 | mk (da : List Da) (cl : List Cl) (ins : List In)
def En.cells : En → List AV
 | .mk da cl ins => .seq 5 (Da.cellss da) :: .seq 6 (Cl.cellss cl) :: [.seq 8 (In.cellss ins)]
def En.da : En → List Da | .mk da _ _ => da
def En.cl : En → List Cl | .mk _ cl _ => cl
def En.ins : En → List In | .mk _ _ ins => ins
def En.cellss (l : List En) : List (List AV) := l.map En.cells
theorem En.cellss_map (l : List En) : En.cellss l = l.map En.cells := rfl
theorem En.cellss_len (l : List En) : (En.cellss l).length = l.length := by simp [En.cellss]
theorem En.cellss_get {l : List En} {i : Nat} {x : En} (h : l[i]? = some x) : (En.cellss l)[i]? = some x.cells := by simp [En.cellss, h]
theorem En.cells_len (x : En) : x.cells.length = 3 := by
 obtain ⟨xda, xcl, xins⟩ := x
 rfl
def En.cellsss (l : List (List En)) : List (List AV) := l.map fun x => [.seq 3 (En.cellss x)]
def En.Lim : En → Prop
 | .mk da cl ins => (da.length ≤ 140737488355328 ∧ ∀ x ∈ da, x.Lim) ∧ (cl.length ≤ 140737488355328 ∧ ∀ x ∈ cl, x.Lim) ∧ (ins.length ≤ 140737488355328 ∧ ∀ x ∈ ins, x.Lim)
end Go.Proofs.YteepjjgooplljaaGreat
namespace Go.Proofs.YteepjjgooplljaaGreat
open Go.RowKit
def Cn.key (x : Cn) := (x.s, x.ts)
def Da.key (x : Da) := (x.s, x.ps, x.cs.map Cn.key, x.dv)
def Me.key (x : Me) := (x.s, x.t)
def Cl.key (x : Cl) := (x.s, x.v, x.su, x.ms.map Me.key, x.ds.map Bi.bare)
def In.key (x : In) := (x.c, x.hd, x.cx, x.bs.map Bi.bare)
def Pg.key (x : Pg) := (x.da.map Da.key, x.cl.map Cl.key, x.ins.map In.key, x.bs.map Bi.bare)
theorem EqualS_c (xs ys : List ByteArray) : BCall Tryz.prog 30 [.seq 1 (strs xs), .seq 1 (strs ys)] (xs = ys) := by
 have hlx := strs_len xs
 have hly := strs_len ys
 refine Zo Tryz.func30 V (by kernel_rfl) V (Xk V) ?_
 refine Ya ?_
 refine c_lens (t := 0) V (.seq _ _) (fun hmax => ?_)
 refine Zh (Zd (Za 4 V V V (Ze V V (Xg (Zb (Zh (Zh (Zd (Za 6 V V V (Zf V V ?_))))))))))
 refine Za 7 V V V (Yi V tu_44 V (.seq _ _) (fun n7 => ?_))
 refine Za 8 V V V (Zf V V ?_)
 refine Za 9 V V V (Yi V tu_44 V (.seq _ _) (fun n9 => ?_))
 refine Za 10 V V V (Xd V V V ?_); intro c10 h10
 refine Xg (Zb ?_)
 rcases Zj h10 with ⟨rfl, g10⟩ | ⟨rfl, g10⟩
 ·refine Zp V (Yb (Zb (Zh (Zh (Zd (Za 11 V V V (Zf V V ?_)))))))
  refine Za 12 V V V (Yi V tu_44 V (.seq _ _) (fun n12 => ?_))
  refine Za 13 V V V (Zf V V (Xg (Zb (Yc ?_))))
  apply Xf [2, 3, 4, 5, 6, 7, 8, 9, 10, 11, 13, 14, 15, 16, 17, 18, 19, 20, 21, 22, 23, 24, 25] (σ := Nat) (fun zz => match zz with | i => [(13, .val (.int .i64 i))]) (fun zz => match zz with | i => i ≤ xs.length ∧ Upto xs ys i) (fun zz => match zz with | i => xs.length - i) (0)
  ·repeat' (first | exact Xn | apply Xl rfl | apply Xm rfl)
  ·exact ⟨by omega, Upto.zero _ _⟩
  ·exact by4
  rintro i hI
  try dsimp only [List.cons_append, List.nil_append] at hI ⊢
  obtain ⟨hi, hu⟩ := hI
  refine Zh (Zd (Za 14 V V V (Yr V V V ?_))); intro c14 h14
  refine Xg (Zb (Zh ?_))
  rcases Zj h14 with ⟨rfl, g14⟩ | ⟨rfl, g14⟩
  ·exact Zp V (Yu (Yw (x_lp (Yv (Zb (Zh (Zd (Za 4 V V V (Ze V V (Xg (Zb (Zx (Zv V V (Xi _) by3 ⟨⟨_, iff_t (hu.eq (by omega) (by omega)), V⟩, V⟩)))))))))))))
  refine Zq V (Yb (Zb (Zh (Yc (Zh ?_)))))
  obtain ⟨a, hxa⟩ := Yj (l := xs) (i := i) by6
  have hca := strs_get hxa
  have hma := Xp hxa
  obtain ⟨b, hxb⟩ := Yj (l := ys) (i := i) by6
  have hcb := strs_get hxb
  have hmb := Xp hxb
  refine Zd (Za 15 V V V (Zf V V (Za 5 V V V (Ze V V (Xg (Zb (Zh (c_drawn tmix V (Zm 16 V V (Zf V V ⟨V, V⟩) ?_)))))))))
  refine Zm 17 V V (Zf V V ⟨V, V⟩) ?_
  refine Zm 18 V V (Zz V te_44 V (.seq _ _) V V (by assumption) ⟨V, V⟩) ?_
  refine Zm 19 V V (Zk V ta_9 V V ⟨V, V⟩) ?_
  refine Zm 20 V V (Zf V V ⟨V, V⟩) ?_
  refine Zm 21 V V (Zf V V ⟨V, V⟩) ?_
  refine Zm 22 V V (Zz V te_44 V (.seq _ _) V V (by assumption) ⟨V, V⟩) ?_
  refine Zm 23 V V (Zk V ta_9 V V ⟨V, V⟩) ?_
  refine DOps.cm 24 V V (fun _ q => op_sneq V V V q) ?_; intro c24 h24
  show AGo _ _ _ _ _ _ _
  refine Zb ?_
  rcases Zj h24 with ⟨rfl, g24⟩ | ⟨rfl, g24⟩
  ·refine Zp V (Yb (Yq (Zb (Zd (Za 25 V V V (Yp V V V (Xo _ (by omega)) ?_))))))
   refine Za 13 V V V (Zf V V (Xg (go_lp ?_)))
   exact ⟨i + 1, ⟨by omega, hu.succ hxa hxb (Classical.not_not.1 g24)⟩, by simp; omega, by4, by3⟩
  refine Zq V (Zh (Zd (Za 4 V V V (Ze V V (Xg (Zb (Zx ?_)))))))
  exact Zv rfl rfl (Xi _) by3 ⟨⟨_, iff_f (fun e => by subst e; rw [hxa] at hxb; exact g24 (Option.some.inj hxb)), rfl⟩, rfl⟩
 refine Zq V (Zh (Zd (Za 4 V V V (Ze V V (Xg (Zb (Zx ?_)))))))
 exact Zv rfl rfl (Xi _) by3 ⟨⟨_, iff_f (fun e => by subst e; omega), rfl⟩, rfl⟩
theorem coAlt_of (a b : Ca) (h : BCall Tryz.prog 9 [.agg a.e.cells, .agg b.e.cells] (a.e.bare = b.e.bare)) : BCall Tryz.prog 27 [.agg a.cells, .agg b.cells] (a.bare = b.bare) := by
 obtain ⟨⟨qk1, qs1, qn1, qks1, qp1⟩, ⟨k1, s1, n1, ⟨tk1, ts1, tn1, tks1⟩, us1, ks1, al1, bb1⟩⟩ := a
 obtain ⟨⟨qk2, qs2, qn2, qks2, qp2⟩, ⟨k2, s2, n2, ⟨tk2, ts2, tn2, tks2⟩, us2, ks2, al2, bb2⟩⟩ := b
 rw [Ca.bare_iff]
 simp only [Ca.e] at h
 have HP := tSamePat_c ⟨qk1, qs1, qn1, qks1, qp1⟩ ⟨qk2, qs2, qn2, qks2, qp2⟩
 generalize (Co.mk k1 s1 n1 ⟨tk1, ts1, tn1, tks1⟩ us1 ks1 al1 bb1).bare = e1 at *
 generalize (Co.mk k2 s2 n2 ⟨tk2, ts2, tn2, tks2⟩ us2 ks2 al2 bb2).bare = e2 at *
 generalize (Pa.mk qk1 qs1 qn1 qks1 qp1).bare = q1 at *
 generalize (Pa.mk qk2 qs2 qn2 qks2 qp2).bare = q2 at *
 refine Zo Tryz.func27 V (by kernel_rfl) V (Xk V) ?_
 refine Ya (Zh (Zd (Za 2 V V V (Yl (cs' := [_, _, _, _, _, _, _, _, _, _, _, _, _, _, _, _]) V V V V (Za 3 V V V (Yl (cs' := [_, _, _, _, _, _, _, _, _, _, _, _, _, _, _, _]) V V V V (Za 4 V V V (Ze V V (Xg (Zb (Zh (Xe 4 (q1 = q2 ∧ e1 = e2) ?_ _ _ V ?_))))))))))))
 ·skip
  refine Za 5 V V V (Zg V tf_69_0 V V (Za 6 V V V (Zn (cs' := [_, _, _, _, _]) V ta_67 V V V (Za 7 V V V (Zg V tf_69_0 V V (Za 8 V V V (Zn (cs' := [_, _, _, _, _]) V ta_67 V V V (Za 9 V V V (Yh (xs := [.tmp 6, .tmp 8]) V V (HP) by1 ?_))))))))); intro c9 h9
  refine Za 10 V V V (Zf V V ?_)
  rcases Zj h9 with ⟨rfl, g9⟩ | ⟨rfl, g9⟩
  ·skip
   refine Zc 11 V V V V V (Zc 12 V V V V V (Zc 13 V V V V V (Zc 14 V V V V V (Zc 15 V V V V V (Za 16 V V V (Zl V V V (Za 4 V V V (Ze V V (Xg (Xj V ?_ by5 by3))))))))))
   simp_all
  skip
  refine Zi 11 V V V V V (Zg V tf_69_1 V V (Zi 12 V V V V V (Zn (cs' := [_, _, _, _, _, _, _, _, _, _, _]) V Yz V V V (Zi 13 V V V V V (Zg V tf_69_1 V V (Zi 14 V V V V V (Zn (cs' := [_, _, _, _, _, _, _, _, _, _, _]) V Yz V V V (Zi 15 V V V V V (Yh (xs := [.tmp 12, .tmp 14]) V V (h) by1 ?_))))))))); intro c15 h15
  refine Za 16 V V V (Zl V V V (Za 4 V V V (Ze V V (Xg (Xj V ?_ by5 by3)))))
  simp_all
 intro c4 h4
 exact Zb (Zx (Zv V V (Xi _) by3 ⟨⟨_, h4, V⟩, V⟩))
theorem coBind_of (a b : Cb) (h : BCall Tryz.prog 9 [.agg a.e.cells, .agg b.e.cells] (a.e.bare = b.e.bare)) : BCall Tryz.prog 29 [.agg a.cells, .agg b.cells] (a.bare = b.bare) := by
 have HV := EqualS_c a.vs b.vs
 have HT := tSameType_c a.t b.t
 obtain ⟨bs1, vs1, ⟨wk1, ws1, wn1, wl1⟩, ⟨k1, s1, n1, ⟨tk1, ts1, tn1, tks1⟩, us1, ks1, al1, bb1⟩⟩ := a
 obtain ⟨bs2, vs2, ⟨wk2, ws2, wn2, wl2⟩, ⟨k2, s2, n2, ⟨tk2, ts2, tn2, tks2⟩, us2, ks2, al2, bb2⟩⟩ := b
 rw [Cb.bare_iff]
 simp only [Cb.e, Cb.vs, Cb.t] at h HV HT
 generalize (Co.mk k1 s1 n1 ⟨tk1, ts1, tn1, tks1⟩ us1 ks1 al1 bb1).bare = e1 at *
 generalize (Co.mk k2 s2 n2 ⟨tk2, ts2, tn2, tks2⟩ us2 ks2 al2 bb2).bare = e2 at *
 refine Zo Tryz.func29 V (by kernel_rfl) V (Xk V) ?_
 refine Ya (Zh (Zd (Za 2 V V V (Yl (cs' := [_, _, _, _, _, _, _, _, _, _, _, _, _, _, _, _, _]) V V V V (Za 3 V V V (Yl (cs' := [_, _, _, _, _, _, _, _, _, _, _, _, _, _, _, _, _]) V V V V (Za 4 V V V (Ze V V (Xg (Zb (Zh (Xe 4 (bs1 = bs2 ∧ vs1 = vs2 ∧ Ty.mk wk1 ws1 wn1 wl1 = Ty.mk wk2 ws2 wn2 wl2 ∧ e1 = e2) ?_ _ _ V ?_))))))))))))
 ·skip
  refine Za 5 V V V (Zg V tf_46_0 V V (Za 6 V V V (Zk V ta_9 V V (Za 7 V V V (Zg V tf_46_0 V V (Za 8 V V V (Zk V ta_9 V V (Za 9 V V V (op_seql V V V ?_))))))))); intro c9 h9
  refine Za 10 V V V (Zf V V ?_)
  rcases Zj h9 with ⟨rfl, g9⟩ | ⟨rfl, g9⟩
  ·skip
   refine Zc 11 V V V V V (Zc 12 V V V V V (Zc 13 V V V V V (Zc 14 V V V V V (Zc 15 V V V V V (Za 16 V V V (Zl V V V (Za 17 V V V (Zf V V (Zc 18 V V V V V (Zc 19 V V V V V (Zc 20 V V V V V (Zc 21 V V V V V (Zc 22 V V V V V ?_)))))))))))))
   refine Za 23 V V V (Zl V V V (Za 24 V V V (Zf V V (Zc 25 V V V V V (Zc 26 V V V V V (Zc 27 V V V V V (Zc 28 V V V V V (Zc 29 V V V V V (Za 30 V V V (Zl V V V (Za 4 V V V (Ze V V (Xg (Xj V ?_ by5 by3))))))))))))))
   simp_all
  skip
  refine Zi 11 V V V V V (Zg V tf_46_1 V V (Zi 12 V V V V V (Zk V ta_44 V V (Zi 13 V V V V V (Zg V tf_46_1 V V (Zi 14 V V V V V (Zk V ta_44 V V (Zi 15 V V V V V (Yh (xs := [.tmp 12, .tmp 14]) V V (HV) by1 ?_))))))))); intro c15 h15
  refine Za 16 V V V (Zl V V V (Za 17 V V V (Zf V V ?_)))
  rcases Zj h15 with ⟨rfl, g15⟩ | ⟨rfl, g15⟩
  ·skip
   refine Zc 18 V V V V V (Zc 19 V V V V V (Zc 20 V V V V V (Zc 21 V V V V V (Zc 22 V V V V V (Za 23 V V V (Zl V V V (Za 24 V V V (Zf V V (Zc 25 V V V V V (Zc 26 V V V V V (Zc 27 V V V V V (Zc 28 V V V V V (Zc 29 V V V V V ?_)))))))))))))
   refine Za 30 V V V (Zl V V V (Za 4 V V V (Ze V V (Xg (Xj V ?_ by5 by3)))))
   simp_all
  skip
  refine Zi 18 V V V V V (Zg V tf_46_2 V V (Zi 19 V V V V V (Zn (cs' := [_, _, _, _]) V Ye V V V (Zi 20 V V V V V (Zg V tf_46_2 V V (Zi 21 V V V V V (Zn (cs' := [_, _, _, _]) V Ye V V V (Zi 22 V V V V V (Yh (xs := [.tmp 19, .tmp 21]) V V (HT) by1 ?_))))))))); intro c22 h22
  refine Za 23 V V V (Zl V V V (Za 24 V V V (Zf V V ?_)))
  rcases Zj h22 with ⟨rfl, g22⟩ | ⟨rfl, g22⟩
  ·skip
   refine Zc 25 V V V V V (Zc 26 V V V V V (Zc 27 V V V V V (Zc 28 V V V V V (Zc 29 V V V V V (Za 30 V V V (Zl V V V (Za 4 V V V (Ze V V (Xg (Xj V ?_ by5 by3))))))))))
   simp_all
  skip
  refine Zi 25 V V V V V (Zg V tf_46_3 V V (Zi 26 V V V V V (Zn (cs' := [_, _, _, _, _, _, _, _, _, _, _]) V Yz V V V (Zi 27 V V V V V (Zg V tf_46_3 V V (Zi 28 V V V V V (Zn (cs' := [_, _, _, _, _, _, _, _, _, _, _]) V Yz V V V (Zi 29 V V V V V (Yh (xs := [.tmp 26, .tmp 28]) V V (h) by1 ?_))))))))); intro c29 h29
  refine Za 30 V V V (Zl V V V (Za 4 V V V (Ze V V (Xg (Xj V ?_ by5 by3)))))
  simp_all
 intro c4 h4
 exact Zb (Zx (Zv V V (Xi _) by3 ⟨⟨_, h4, V⟩, V⟩))
theorem coSame_c (a : Co) : ∀ b : Co, BCall Tryz.prog 9 [.agg a.cells, .agg b.cells] (a.bare = b.bare) := by
 obtain ⟨k1, s1, n1, ⟨tk1, ts1, tn1, tks1⟩, us1, ks1, al1, bb1⟩ := a
 rintro ⟨k2, s2, n2, ⟨tk2, ts2, tn2, tks2⟩, us2, ks2, al2, bb2⟩
 have HU := EqF_Ty id 25 us1 us2 (fun x _ y => tSameType_c x y)
 rw [List.map_id, List.map_id] at HU
 have HK := EqF_Co Co.bare 9 ks1 ks2 (fun x hx y => coSame_c x y)
 have HB := EqF_Cb Cb.bare 29 bb1 bb2 (fun x hx y => coBind_of x y (coSame_c x.e y.e))
 have HA := EqF_Ca Ca.bare 27 al1 al2 (fun x hx y => coAlt_of x y (coSame_c x.e y.e))
 have HT := tSameType_c ⟨tk1, ts1, tn1, tks1⟩ ⟨tk2, ts2, tn2, tks2⟩
 rw [Co.bare_iff]
 generalize ks1.map Co.bare = mk1 at *
 generalize ks2.map Co.bare = mk2 at *
 generalize bb1.map Cb.bare = mb1 at *
 generalize bb2.map Cb.bare = mb2 at *
 generalize al1.map Ca.bare = ma1 at *
 generalize al2.map Ca.bare = ma2 at *
 refine Zo Tryz.func9 V (by kernel_rfl) V (Xk V) ?_
 refine Ya (Zh (Zd (Za 2 V V V (Yl (cs' := [_, _, _, _, _, _, _, _, _, _, _]) V V V V (Za 3 V V V (Yl (cs' := [_, _, _, _, _, _, _, _, _, _, _]) V V V V (Za 4 V V V (Ze V V (Xg (Zb (Zh (Zh (Xe 41 (¬ (k1 = k2 ∧ s1 = s2 ∧ n1 = n2 ∧ Ty.mk tk1 ts1 tn1 tks1 = Ty.mk tk2 ts2 tn2 tks2 ∧ us1 = us2)) ?_ _ _ V ?_)))))))))))))
 ·skip
  refine Za 7 V V V (Zg V tf_29_0 V V (Za 8 V V V (Zk V ta_3 V V (Za 9 V V V (Zg V tf_29_0 V V (Za 10 V V V (Zk V ta_3 V V (Za 11 V V V (Xd V V V ?_))))))))); intro c11 h11
  refine Za 12 V V V (Zf V V ?_)
  rcases Zj h11 with ⟨rfl, g11⟩ | ⟨rfl, g11⟩
  ·skip
   refine Zi 13 V V V V V (Zg V tf_29_1 V V (Zi 14 V V V V V (Zk V ta_9 V V (Zi 15 V V V V V (Zg V tf_29_1 V V (Zi 16 V V V V V (Zk V ta_9 V V (Zi 17 V V V V V (op_sneq V V V ?_))))))))); intro c17 h17
   refine Za 18 V V V (Zl V V V (Za 19 V V V (Zf V V ?_)))
   rcases Zj h17 with ⟨rfl, g17⟩ | ⟨rfl, g17⟩
   ·skip
    refine Zi 20 V V V V V (Zg V tf_29_2 V V (Zi 21 V V V V V (Zk V ta_2 V V (Zi 22 V V V V V (Zg V tf_29_2 V V (Zi 23 V V V V V (Zk V ta_2 V V (Zi 24 V V V V V (Xd V V V ?_))))))))); intro c24 h24
    refine Za 25 V V V (Zl V V V (Za 26 V V V (Zf V V ?_)))
    rcases Zj h24 with ⟨rfl, g24⟩ | ⟨rfl, g24⟩
    ·skip
     refine Zi 27 V V V V V (Zg V tf_29_3 V V (Zi 28 V V V V V (Zn (cs' := [_, _, _, _]) V Ye V V V (Zi 29 V V V V V (Zg V tf_29_3 V V (Zi 30 V V V V V (Zn (cs' := [_, _, _, _]) V Ye V V V (Zi 31 V V V V V (Yh (xs := [.tmp 28, .tmp 30]) V V (HT) by1 ?_))))))))); intro c31 h31
     refine Zi 32 V V V V V (Yn V V ?_); intro c32 h32
     try replace h32 := nott h32 h31
     refine Za 33 V V V (Zl V V V (Za 34 V V V (Zf V V ?_)))
     rcases Zj h32 with ⟨rfl, g32⟩ | ⟨rfl, g32⟩
     ·skip
      refine Zi 35 V V V V V (Zg V tf_29_4 V V (Zi 36 V V V V V (Zk V Xc V V (Zi 37 V V V V V (Zg V tf_29_4 V V (Zi 38 V V V V V (Zk V Xc V V (Zi 39 V V V V V (Yh (xs := [.tmp 36, .tmp 38, .func 25]) V V (HU) by1 ?_))))))))); intro c39 h39
      refine Zi 40 V V V V V (Yn V V ?_); intro c40 h40
      try replace h40 := nott h40 h39
      refine Za 41 V V V (Zl V V V (Xg (Xj V ?_ by5 by3)))
      simp_all
     skip
     refine Zc 35 V V V V V (Zc 36 V V V V V (Zc 37 V V V V V (Zc 38 V V V V V (Zc 39 V V V V V (Zc 40 V V V V V (Za 41 V V V (Zl V V V (Xg (Xj V ?_ by5 by3)))))))))
     simp_all
    skip
    refine Zc 27 V V V V V (Zc 28 V V V V V (Zc 29 V V V V V (Zc 30 V V V V V (Zc 31 V V V V V (Zc 32 V V V V V (Za 33 V V V (Zl V V V (Za 34 V V V (Zf V V (Zc 35 V V V V V (Zc 36 V V V V V (Zc 37 V V V V V (Zc 38 V V V V V ?_)))))))))))))
    refine Zc 39 V V V V V (Zc 40 V V V V V (Za 41 V V V (Zl V V V (Xg (Xj V ?_ by5 by3)))))
    simp_all
   skip
   refine Zc 20 V V V V V (Zc 21 V V V V V (Zc 22 V V V V V (Zc 23 V V V V V (Zc 24 V V V V V (Za 25 V V V (Zl V V V (Za 26 V V V (Zf V V (Zc 27 V V V V V (Zc 28 V V V V V (Zc 29 V V V V V (Zc 30 V V V V V (Zc 31 V V V V V ?_)))))))))))))
   refine Zc 32 V V V V V (Za 33 V V V (Zl V V V (Za 34 V V V (Zf V V (Zc 35 V V V V V (Zc 36 V V V V V (Zc 37 V V V V V (Zc 38 V V V V V (Zc 39 V V V V V (Zc 40 V V V V V (Za 41 V V V (Zl V V V (Xg (Xj V ?_ by5 by3))))))))))))))
   simp_all
  skip
  refine Zc 13 V V V V V (Zc 14 V V V V V (Zc 15 V V V V V (Zc 16 V V V V V (Zc 17 V V V V V (Za 18 V V V (Zl V V V (Za 19 V V V (Zf V V (Zc 20 V V V V V (Zc 21 V V V V V (Zc 22 V V V V V (Zc 23 V V V V V (Zc 24 V V V V V ?_)))))))))))))
  refine Za 25 V V V (Zl V V V (Za 26 V V V (Zf V V (Zc 27 V V V V V (Zc 28 V V V V V (Zc 29 V V V V V (Zc 30 V V V V V (Zc 31 V V V V V (Zc 32 V V V V V (Za 33 V V V (Zl V V V (Za 34 V V V (Zf V V (Zc 35 V V V V V (Zc 36 V V V V V ?_)))))))))))))))
  refine Zc 37 V V V V V (Zc 38 V V V V V (Zc 39 V V V V V (Zc 40 V V V V V (Za 41 V V V (Zl V V V (Xg (Xj V ?_ by5 by3)))))))
  simp_all
 intro c41 h41
 refine Zb ?_
 rcases Zj h41 with ⟨rfl, g41⟩ | ⟨rfl, g41⟩
 ·refine Zp V (Yb (Zb (Zh (Zd (Za 5 V V V (Ze V V (Xg (Zb (Zh (Zd (Za 6 V V V (Ze V V (Xg (Zb (Zh (Xe 4 (mk1 = mk2 ∧ ma1 = ma2 ∧ mb1 = mb2) ?_ _ _ V ?_))))))))))))))))
  ·skip
   refine Za 42 V V V (Zg V tf_29_5 V V (Za 43 V V V (Zk V ta_25 V V (Za 44 V V V (Zg V tf_29_5 V V (Za 45 V V V (Zk V ta_25 V V (Za 46 V V V (Yh (xs := [.tmp 43, .tmp 45, .func 9]) V V (HK) by1 ?_))))))))); intro c46 h46
   refine Za 47 V V V (Zf V V ?_)
   rcases Zj h46 with ⟨rfl, g46⟩ | ⟨rfl, g46⟩
   ·skip
    refine Zc 48 V V V V V (Zc 49 V V V V V (Zc 50 V V V V V (Zc 51 V V V V V (Zc 52 V V V V V (Zc 53 V V V V V (Za 54 V V V (Zl V V V (Za 55 V V V (Zf V V (Zc 56 V V V V V (Zc 57 V V V V V (Zc 58 V V V V V (Zc 59 V V V V V ?_)))))))))))))
    refine Zc 60 V V V V V (Zc 61 V V V V V (Za 62 V V V (Zl V V V (Za 4 V V V (Ze V V (Xg (Xj V ?_ by5 by3)))))))
    simp_all
   skip
   refine Zi 48 V V V V V (Zg V tf_29_6 V V (Zi 49 V V V V V (Zk V ta_26 V V (Zi 50 V V V V V (Zg V tf_29_6 V V (Zi 51 V V V V V (Zk V ta_26 V V (Zi 52 V V V V V (Zf V V (Zi 53 V V V V V (Yh (xs := [.tmp 49, .tmp 51, .tmp 52]) V V (HA) by1 ?_))))))))))); intro c53 h53
   refine Za 54 V V V (Zl V V V (Za 55 V V V (Zf V V ?_)))
   rcases Zj h53 with ⟨rfl, g53⟩ | ⟨rfl, g53⟩
   ·skip
    refine Zc 56 V V V V V (Zc 57 V V V V V (Zc 58 V V V V V (Zc 59 V V V V V (Zc 60 V V V V V (Zc 61 V V V V V (Za 62 V V V (Zl V V V (Za 4 V V V (Ze V V (Xg (Xj V ?_ by5 by3)))))))))))
    simp_all
   skip
   refine Zi 56 V V V V V (Zg V tf_29_7 V V (Zi 57 V V V V V (Zk V ta_27 V V (Zi 58 V V V V V (Zg V tf_29_7 V V (Zi 59 V V V V V (Zk V ta_27 V V (Zi 60 V V V V V (Zf V V (Zi 61 V V V V V (Yh (xs := [.tmp 57, .tmp 59, .tmp 60]) V V (HB) by1 ?_))))))))))); intro c61 h61
   refine Za 62 V V V (Zl V V V (Za 4 V V V (Ze V V (Xg (Xj V ?_ by5 by3)))))
   simp_all
  intro c4 h4
  refine Zb (Zx ?_)
  obtain ⟨e1, e2, e3, e4, e5⟩ := Classical.not_not.1 g41
  exact Zv V V (Xi _) by3 ⟨⟨_, h4.trans ⟨fun q => ⟨e1, e2, e3, e4, e5, q⟩, fun q => q.2.2.2.2.2⟩, V⟩, V⟩
 refine Zq V (Zh (Zd (Za 4 V V V (Ze V V (Xg (Zb (Zx ?_)))))))
 exact Zv V V (Xi _) by3 ⟨⟨_, iff_f (fun q => g41 ⟨q.1, q.2.1, q.2.2.1, q.2.2.2.1, q.2.2.2.2.1⟩), V⟩, V⟩
termination_by SizeOf.sizeOf a
decreasing_by
 ·exact Co.lt_kid hx
 ·exact Nat.lt_trans (Cb.lt_e x) (Co.lt_bind hx)
 exact Nat.lt_trans (Ca.lt_e x) (Co.lt_alt hx)
theorem rcoBinds_of (xs ys : List Cb) (IH : ∀ x ∈ xs, ∀ y : Co, BCall Tryz.prog 10 [.agg x.e.cells, .agg y.cells] (x.e.bare = y.bare)) : BCall Tryz.prog 35 [.seq 17 (Cb.cellss xs), .seq 17 (Cb.cellss ys)] (xs.map Cb.bare = ys.map Cb.bare) := by
 have hlx := Cb.cellss_len xs
 have hly := Cb.cellss_len ys
 refine Zo Tryz.func35 V (by kernel_rfl) V (Xk V) ?_
 refine Ya ?_
 refine c_lens (t := 0) V (.seq _ _) (fun hmax => ?_)
 refine Zh (Zd (Za 4 V V V (Ze V V (Xg (Zb (Zh (Zh (Zd (Za 6 V V V (Zf V V ?_))))))))))
 refine Za 7 V V V (Yi V tu_27 V (.seq _ _) (fun n7 => ?_))
 refine Za 8 V V V (Zf V V ?_)
 refine Za 9 V V V (Yi V tu_27 V (.seq _ _) (fun n9 => ?_))
 refine Za 10 V V V (Xd V V V ?_); intro c10 h10
 refine Xg (Zb ?_)
 rcases Zj h10 with ⟨rfl, g10⟩ | ⟨rfl, g10⟩
 ·refine Zp V (Yb (Zb (Zh (Zh (Zd (Za 5 V V V (Ze V V (Xg (Zb (Yc ?_))))))))))
  apply Xf [2, 3, 4, 5, 6, 7, 8, 9, 10, 11, 12, 13, 14, 15, 16, 17, 18, 19, 20, 21, 22, 23, 24, 25, 26, 27, 28, 29, 30, 31, 32, 33, 34, 35, 36, 37, 38, 39, 40, 41, 42, 43, 44, 45, 46, 47, 48, 49, 50, 51, 52, 53, 54, 55, 56, 57, 58, 59, 60, 61, 62, 63, 64, 65, 66, 67, 68, 69] (σ := Nat) (fun zz => match zz with | i => [(5, .val (.int .i64 i))]) (fun zz => match zz with | i => i ≤ xs.length ∧ Upto (xs.map Cb.bare) (ys.map Cb.bare) i) (fun zz => match zz with | i => xs.length - i) (0)
  ·repeat' (first | exact Xn | apply Xl rfl | apply Xm rfl)
  ·exact ⟨by omega, Upto.zero _ _⟩
  ·exact by4
  rintro i hI
  try dsimp only [List.cons_append, List.nil_append] at hI ⊢
  obtain ⟨hi, hu⟩ := hI
  refine Zh (Zh (Zd (Za 11 V V V (Zf V V (Za 12 V V V (Zf V V ?_))))))
  refine Za 13 V V V (Yi V tu_27 V (.seq _ _) (fun n13 => ?_))
  refine Za 14 V V V (Yr V V V ?_); intro c14 h14
  refine Xg (Zb ?_)
  rcases Zj h14 with ⟨rfl, g14⟩ | ⟨rfl, g14⟩
  ·refine Zp V (Yu (Yw (x_lp (Yv (Zb (Zh (Zd (Za 4 V V V (Ze V V (Xg (Zb (Zx ?_))))))))))))
   exact Zv V V (Xi _) by3 ⟨⟨_, iff_t (hu.eq (by simp; omega) (by simp; omega)), V⟩, V⟩
  refine Zq V (Yb (Zb (Zh (Yc (Zh ?_)))))
  obtain ⟨⟨bs1, vs1, ⟨wk1, ws1, wn1, wl1⟩, ⟨k1, s1, n1, ⟨tk1, ts1, tn1, tks1⟩, us1, ks1, al1, bb1⟩⟩, hx⟩ := Yj (l := xs) (i := i) (by omega)
  obtain ⟨⟨bs2, vs2, ⟨wk2, ws2, wn2, wl2⟩, ⟨k2, s2, n2, ⟨tk2, ts2, tn2, tks2⟩, us2, ks2, al2, bb2⟩⟩, hy⟩ := Yj (l := ys) (i := i) (by omega)
  have hcx := Cb.cellss_get hx
  have hcy := Cb.cellss_get hy
  have HS := IH _ (Xp hx) ⟨k2, s2, n2, ⟨tk2, ts2, tn2, tks2⟩, us2, ks2, al2, bb2⟩
  have HV := Texts_c vs1 vs2
  have HT := SameType_c ⟨wk1, ws1, wn1, wl1⟩ ⟨wk2, ws2, wn2, wl2⟩
  have hne := fun e => map_ne Cb.bare hx hy e
  have heq := fun e => upto_map Cb.bare hu hx hy e
  rw [Cb.bare_iff] at hne heq
  simp only [Cb.e] at HS
  generalize (Co.mk k1 s1 n1 ⟨tk1, ts1, tn1, tks1⟩ us1 ks1 al1 bb1).bare = e1 at *
  generalize (Co.mk k2 s2 n2 ⟨tk2, ts2, tn2, tks2⟩ us2 ks2 al2 bb2).bare = e2 at *
  refine c_boold 69 (¬ (bs1 = bs2 ∧ vs1 = vs2 ∧ Ty.mk wk1 ws1 wn1 wl1 = Ty.mk wk2 ws2 wn2 wl2 ∧ e1 = e2)) tmix V ?_ _ _ V ?_
  ·skip
   refine Zm 17 V V (Zf V V ⟨V, V⟩) ?_
   refine Zm 18 V V (Zf V V ⟨V, V⟩) ?_
   refine Zm 19 V V (Zz V te_27 V (.seq _ _) V V (by first | exact hcx | exact hcy) ⟨V, V⟩) ?_
   refine Zm 20 V V (Zg V tf_46_0 V V ⟨V, V⟩) ?_
   refine Zm 21 V V (Zk V ta_9 V V ⟨V, V⟩) ?_
   refine Zm 22 V V (Zf V V ⟨V, V⟩) ?_
   refine Zm 23 V V (Zf V V ⟨V, V⟩) ?_
   refine Zm 24 V V (Zz V te_27 V (.seq _ _) V V (by first | exact hcx | exact hcy) ⟨V, V⟩) ?_
   refine Zm 25 V V (Zg V tf_46_0 V V ⟨V, V⟩) ?_
   refine Zm 26 V V (Zk V ta_9 V V ⟨V, V⟩) ?_
   refine DOps.cm 27 V V (fun _ q => op_sneq V V V q) ?_; intro c27 h27
   refine Zm 28 V V (Zf V V ⟨V, V⟩) ?_
   rcases Zj h27 with ⟨rfl, g27⟩ | ⟨rfl, g27⟩
   ·skip
    refine Yk 29 V V V V (Zf V V ⟨V, V⟩) ?_
    refine Yk 30 V V V V (Zf V V ⟨V, V⟩) ?_
    refine Yk 31 V V V V (Zz V te_27 V (.seq _ _) V V (by first | exact hcx | exact hcy) ⟨V, V⟩) ?_
    refine Yk 32 V V V V (Zg V tf_46_1 V V ⟨V, V⟩) ?_
    refine Yk 33 V V V V (Zk V ta_44 V V ⟨V, V⟩) ?_
    refine Yk 34 V V V V (Zf V V ⟨V, V⟩) ?_
    refine Yk 35 V V V V (Zf V V ⟨V, V⟩) ?_
    refine Yk 36 V V V V (Zz V te_27 V (.seq _ _) V V (by first | exact hcx | exact hcy) ⟨V, V⟩) ?_
    refine Yk 37 V V V V (Zg V tf_46_1 V V ⟨V, V⟩) ?_
    refine Yk 38 V V V V (Zk V ta_44 V V ⟨V, V⟩) ?_
    refine DOps.gtc 39 V V V V (fun _ q => Yh (xs := [.tmp 33, .tmp 38]) V V (HV) by1 q) ?_; intro c39 h39
    refine DOps.gtc 40 V V V V (fun _ q => Yn V V q) ?_; intro c40 h40
    try replace h40 := nott h40 h39
    refine Zm 41 V V (Zl V V V ⟨V, V⟩) ?_
    refine Zm 42 V V (Zf V V ⟨V, V⟩) ?_
    rcases Zj h40 with ⟨rfl, g40⟩ | ⟨rfl, g40⟩
    ·skip
     refine Yk 43 V V V V (Zf V V ⟨V, V⟩) ?_
     refine Yk 44 V V V V (Zf V V ⟨V, V⟩) ?_
     refine Yk 45 V V V V (Zz V te_27 V (.seq _ _) V V (by first | exact hcx | exact hcy) ⟨V, V⟩) ?_
     refine Yk 46 V V V V (Zg V tf_46_2 V V ⟨V, V⟩) ?_
     refine Yk 47 V V V V (Zn (cs' := [_, _, _, _]) V Ye V V V ⟨V, V⟩) ?_
     refine Yk 48 V V V V (Zf V V ⟨V, V⟩) ?_
     refine Yk 49 V V V V (Zf V V ⟨V, V⟩) ?_
     refine Yk 50 V V V V (Zz V te_27 V (.seq _ _) V V (by first | exact hcx | exact hcy) ⟨V, V⟩) ?_
     refine Yk 51 V V V V (Zg V tf_46_2 V V ⟨V, V⟩) ?_
     refine Yk 52 V V V V (Zn (cs' := [_, _, _, _]) V Ye V V V ⟨V, V⟩) ?_
     refine DOps.gtc 53 V V V V (fun _ q => Yh (xs := [.tmp 47, .tmp 52]) V V (HT) by1 q) ?_; intro c53 h53
     refine DOps.gtc 54 V V V V (fun _ q => Yn V V q) ?_; intro c54 h54
     try replace h54 := nott h54 h53
     refine Zm 55 V V (Zl V V V ⟨V, V⟩) ?_
     refine Zm 56 V V (Zf V V ⟨V, V⟩) ?_
     rcases Zj h54 with ⟨rfl, g54⟩ | ⟨rfl, g54⟩
     ·skip
      refine Yk 57 V V V V (Zf V V ⟨V, V⟩) ?_
      refine Yk 58 V V V V (Zf V V ⟨V, V⟩) ?_
      refine Yk 59 V V V V (Zz V te_27 V (.seq _ _) V V (by first | exact hcx | exact hcy) ⟨V, V⟩) ?_
      refine Yk 60 V V V V (Zg V tf_46_3 V V ⟨V, V⟩) ?_
      refine Yk 61 V V V V (Zn (cs' := [_, _, _, _, _, _, _, _, _, _, _]) V Yz V V V ⟨V, V⟩) ?_
      refine Yk 62 V V V V (Zf V V ⟨V, V⟩) ?_
      refine Yk 63 V V V V (Zf V V ⟨V, V⟩) ?_
      refine Yk 64 V V V V (Zz V te_27 V (.seq _ _) V V (by first | exact hcx | exact hcy) ⟨V, V⟩) ?_
      refine Yk 65 V V V V (Zg V tf_46_3 V V ⟨V, V⟩) ?_
      refine Yk 66 V V V V (Zn (cs' := [_, _, _, _, _, _, _, _, _, _, _]) V Yz V V V ⟨V, V⟩) ?_
      refine DOps.gtc 67 V V V V (fun _ q => Yh (xs := [.tmp 61, .tmp 66]) V V (HS) by1 q) ?_; intro c67 h67
      refine DOps.gtc 68 V V V V (fun _ q => Yn V V q) ?_; intro c68 h68
      try replace h68 := nott h68 h67
      refine Zm 69 V V (Zl V V V ⟨V, V⟩) ?_
      show BoolQ _ _ _ _ _ _
      refine Xj V ?_ by5 by3
      simp_all
     skip
     refine Zu 57 V V V V (Zu 58 V V V V (Zu 59 V V V V (Zu 60 V V V V (Zu 61 V V V V (Zu 62 V V V V (Zu 63 V V V V (Zu 64 V V V V (Zu 65 V V V V (Zu 66 V V V V (Zu 67 V V V V (Zu 68 V V V V ?_)))))))))))
     refine Zm 69 V V (Zl V V V ⟨V, V⟩) ?_
     show BoolQ _ _ _ _ _ _
     refine Xj V ?_ by5 by3
     simp_all
    skip
    refine Zu 43 V V V V (Zu 44 V V V V (Zu 45 V V V V (Zu 46 V V V V (Zu 47 V V V V (Zu 48 V V V V (Zu 49 V V V V (Zu 50 V V V V (Zu 51 V V V V (Zu 52 V V V V (Zu 53 V V V V (Zu 54 V V V V ?_)))))))))))
    refine Zm 55 V V (Zl V V V ⟨V, V⟩) ?_
    refine Zm 56 V V (Zf V V ⟨V, V⟩) ?_
    refine Zu 57 V V V V (Zu 58 V V V V (Zu 59 V V V V (Zu 60 V V V V (Zu 61 V V V V (Zu 62 V V V V (Zu 63 V V V V (Zu 64 V V V V (Zu 65 V V V V (Zu 66 V V V V (Zu 67 V V V V (Zu 68 V V V V ?_)))))))))))
    refine Zm 69 V V (Zl V V V ⟨V, V⟩) ?_
    show BoolQ _ _ _ _ _ _
    refine Xj V ?_ by5 by3
    simp_all
   skip
   refine Zu 29 V V V V (Zu 30 V V V V (Zu 31 V V V V (Zu 32 V V V V (Zu 33 V V V V (Zu 34 V V V V (Zu 35 V V V V (Zu 36 V V V V (Zu 37 V V V V (Zu 38 V V V V (Zu 39 V V V V (Zu 40 V V V V ?_)))))))))))
   refine Zm 41 V V (Zl V V V ⟨V, V⟩) ?_
   refine Zm 42 V V (Zf V V ⟨V, V⟩) ?_
   refine Zu 43 V V V V (Zu 44 V V V V (Zu 45 V V V V (Zu 46 V V V V (Zu 47 V V V V (Zu 48 V V V V (Zu 49 V V V V (Zu 50 V V V V (Zu 51 V V V V (Zu 52 V V V V (Zu 53 V V V V (Zu 54 V V V V ?_)))))))))))
   refine Zm 55 V V (Zl V V V ⟨V, V⟩) ?_
   refine Zm 56 V V (Zf V V ⟨V, V⟩) ?_
   refine Zu 57 V V V V (Zu 58 V V V V (Zu 59 V V V V (Zu 60 V V V V (Zu 61 V V V V (Zu 62 V V V V (Zu 63 V V V V (Zu 64 V V V V (Zu 65 V V V V (Zu 66 V V V V (Zu 67 V V V V (Zu 68 V V V V ?_)))))))))))
   refine Zm 69 V V (Zl V V V ⟨V, V⟩) ?_
   show BoolQ _ _ _ _ _ _
   refine Xj V ?_ by5 by3
   simp_all
  intro c69 h69
  refine Zb ?_
  rcases Zj h69 with ⟨rfl, g69⟩ | ⟨rfl, g69⟩
  ·refine Zp V (Yb (Yq (Zb (Zd (Za 15 V V V (Zf V V (Za 16 V V V (Yp V V V (Xo _ (by omega)) ?_))))))))
   refine Za 5 V V V (Ze V V (Xg (go_lp ?_)))
   exact ⟨i + 1, ⟨by omega, heq (Classical.not_not.1 g69)⟩, by simp; omega, by4, by3⟩
  exact Zq V (Zh (Zd (Za 4 V V V (Ze V V (Xg (Zb (Zx (Zv V V (Xi _) by3 ⟨⟨_, iff_f (hne g69), V⟩, V⟩))))))))
 exact Zq V (Zh (Zd (Za 4 V V V (Ze V V (Xg (Zb (Zx (Zv V V (Xi _) by3 ⟨⟨_, iff_f (map_len_ne _ (by omega)), V⟩, V⟩))))))))
theorem rcoSame_c (a : Co) : ∀ b : Co, BCall Tryz.prog 10 [.agg a.cells, .agg b.cells] (a.bare = b.bare) := by
 obtain ⟨k1, s1, n1, ⟨tk1, ts1, tn1, tks1⟩, us1, ks1, al1, bb1⟩ := a
 rintro ⟨k2, s2, n2, ⟨tk2, ts2, tn2, tks2⟩, us2, ks2, al2, bb2⟩
 have HK : ∀ x ∈ ks1, ∀ y : Co, BCall Tryz.prog 10 [.agg x.cells, .agg y.cells] (x.bare = y.bare) := fun x hx y => rcoSame_c x y
 have HA : ∀ x ∈ al1, ∀ y : Co, BCall Tryz.prog 10 [.agg x.e.cells, .agg y.cells] (x.e.bare = y.bare) := fun x hx y => rcoSame_c x.e y
 have HB := rcoBinds_of bb1 bb2 (fun x hx y => rcoSame_c x.e y)
 have HT := SameType_c ⟨tk1, ts1, tn1, tks1⟩ ⟨tk2, ts2, tn2, tks2⟩
 have HU := SameTypes_c us1 us2
 have hk1 := Co.cellss_len ks1
 have hk2 := Co.cellss_len ks2
 have ha1 := Ca.cellss_len al1
 have ha2 := Ca.cellss_len al2
 rw [Co.bare_iff]
 generalize bb1.map Cb.bare = mb1 at *
 generalize bb2.map Cb.bare = mb2 at *
 refine Zo Tryz.func10 V (by kernel_rfl) V (Xk V) ?_
 refine Ya ?_
 refine c_lena (t := 0) (j := 8) V V (.seq _ _) (fun hmax => ?_)
 refine c_lena (t := 0) (j := 9) V V (.seq _ _) (fun hmax2 => ?_)
 refine Zh (Zd (Za 2 V V V (Yl (cs' := [_, _, _, _, _, _, _, _, _, _, _]) V V V V (Za 3 V V V (Yl (cs' := [_, _, _, _, _, _, _, _, _, _, _]) V V V V (Za 4 V V V (Ze V V (Xg (Zb (Zh (Zh (Xe 67 (¬ (k1 = k2 ∧ s1 = s2 ∧ n1 = n2 ∧ Ty.mk tk1 ts1 tn1 tks1 = Ty.mk tk2 ts2 tn2 tks2 ∧ us1 = us2 ∧ ks1.length = ks2.length ∧ al1.length = al2.length ∧ mb1 = mb2)) ?_ _ _ V ?_))))))))))))
 ·skip
  refine Za 7 V V V (Zg V tf_29_0 V V (Za 8 V V V (Zk V ta_3 V V (Za 9 V V V (Zg V tf_29_0 V V (Za 10 V V V (Zk V ta_3 V V (Za 11 V V V (Xd V V V ?_))))))))); intro c11 h11
  refine Za 12 V V V (Zf V V ?_)
  rcases Zj h11 with ⟨rfl, g11⟩ | ⟨rfl, g11⟩
  ·skip
   refine Zi 13 V V V V V (Zg V tf_29_1 V V (Zi 14 V V V V V (Zk V ta_9 V V (Zi 15 V V V V V (Zg V tf_29_1 V V (Zi 16 V V V V V (Zk V ta_9 V V (Zi 17 V V V V V (op_sneq V V V ?_))))))))); intro c17 h17
   refine Za 18 V V V (Zl V V V (Za 19 V V V (Zf V V ?_)))
   rcases Zj h17 with ⟨rfl, g17⟩ | ⟨rfl, g17⟩
   ·skip
    refine Zi 20 V V V V V (Zg V tf_29_2 V V (Zi 21 V V V V V (Zk V ta_2 V V (Zi 22 V V V V V (Zg V tf_29_2 V V (Zi 23 V V V V V (Zk V ta_2 V V (Zi 24 V V V V V (Xd V V V ?_))))))))); intro c24 h24
    refine Za 25 V V V (Zl V V V (Za 26 V V V (Zf V V ?_)))
    rcases Zj h24 with ⟨rfl, g24⟩ | ⟨rfl, g24⟩
    ·skip
     refine Zi 27 V V V V V (Zg V tf_29_3 V V (Zi 28 V V V V V (Zn (cs' := [_, _, _, _]) V Ye V V V (Zi 29 V V V V V (Zg V tf_29_3 V V (Zi 30 V V V V V (Zn (cs' := [_, _, _, _]) V Ye V V V (Zi 31 V V V V V (Yh (xs := [.tmp 28, .tmp 30]) V V (HT) by1 ?_))))))))); intro c31 h31
     refine Zi 32 V V V V V (Yn V V ?_); intro c32 h32
     try replace h32 := nott h32 h31
     refine Za 33 V V V (Zl V V V (Za 34 V V V (Zf V V ?_)))
     rcases Zj h32 with ⟨rfl, g32⟩ | ⟨rfl, g32⟩
     ·skip
      refine Zi 35 V V V V V (Zg V tf_29_4 V V (Zi 36 V V V V V (Zk V Xc V V (Zi 37 V V V V V (Zg V tf_29_4 V V (Zi 38 V V V V V (Zk V Xc V V (Zi 39 V V V V V (Yh (xs := [.tmp 36, .tmp 38]) V V (HU) by1 ?_))))))))); intro c39 h39
      refine Zi 40 V V V V V (Yn V V ?_); intro c40 h40
      try replace h40 := nott h40 h39
      refine Za 41 V V V (Zl V V V (Za 42 V V V (Zf V V ?_)))
      rcases Zj h40 with ⟨rfl, g40⟩ | ⟨rfl, g40⟩
      ·skip
       refine Zi 43 V V V V V (Zg V tf_29_5 V V (Zi 44 V V V V V (Zk V ta_25 V V ?_)))
       refine Zi 45 V V V V V (Yi V tu_25 V (.seq _ _) (fun n45 => ?_))
       refine Zi 46 V V V V V (Zg V tf_29_5 V V (Zi 47 V V V V V (Zk V ta_25 V V ?_)))
       refine Zi 48 V V V V V (Yi V tu_25 V (.seq _ _) (fun n48 => ?_))
       refine Zi 49 V V V V V (Xd V V V ?_); intro c49 h49
       refine Za 50 V V V (Zl V V V (Za 51 V V V (Zf V V ?_)))
       rcases Zj h49 with ⟨rfl, g49⟩ | ⟨rfl, g49⟩
       ·skip
        refine Zi 52 V V V V V (Zg V tf_29_6 V V (Zi 53 V V V V V (Zk V ta_26 V V ?_)))
        refine Zi 54 V V V V V (Yi V tu_26 V (.seq _ _) (fun n54 => ?_))
        refine Zi 55 V V V V V (Zg V tf_29_6 V V (Zi 56 V V V V V (Zk V ta_26 V V ?_)))
        refine Zi 57 V V V V V (Yi V tu_26 V (.seq _ _) (fun n57 => ?_))
        refine Zi 58 V V V V V (Xd V V V ?_); intro c58 h58
        refine Za 59 V V V (Zl V V V (Za 60 V V V (Zf V V ?_)))
        rcases Zj h58 with ⟨rfl, g58⟩ | ⟨rfl, g58⟩
        ·skip
         refine Zi 61 V V V V V (Zg V tf_29_7 V V (Zi 62 V V V V V (Zk V ta_27 V V (Zi 63 V V V V V (Zg V tf_29_7 V V (Zi 64 V V V V V (Zk V ta_27 V V (Zi 65 V V V V V (Yh (xs := [.tmp 62, .tmp 64]) V V (HB) by1 ?_))))))))); intro c65 h65
         refine Zi 66 V V V V V (Yn V V ?_); intro c66 h66
         try replace h66 := nott h66 h65
         refine Za 67 V V V (Zl V V V (Xg (Xj V ?_ by5 by3)))
         (have w1 : ks1.length = ks2.length := (by omega)); (have w2 : al1.length = al2.length := (by omega)); simp_all; done
        skip
        refine Zc 61 V V V V V (Zc 62 V V V V V (Zc 63 V V V V V (Zc 64 V V V V V (Zc 65 V V V V V (Zc 66 V V V V V (Za 67 V V V (Zl V V V (Xg (Xj V ?_ by5 by3)))))))))
        simp_all; omega
       skip
       refine Zc 52 V V V V V (Zc 53 V V V V V (Zc 54 V V V V V (Zc 55 V V V V V (Zc 56 V V V V V (Zc 57 V V V V V (Zc 58 V V V V V (Za 59 V V V (Zl V V V (Za 60 V V V (Zf V V (Zc 61 V V V V V (Zc 62 V V V V V (Zc 63 V V V V V ?_)))))))))))))
       refine Zc 64 V V V V V (Zc 65 V V V V V (Zc 66 V V V V V (Za 67 V V V (Zl V V V (Xg (Xj V ?_ by5 by3))))))
       simp_all; omega
      skip
      refine Zc 43 V V V V V (Zc 44 V V V V V (Zc 45 V V V V V (Zc 46 V V V V V (Zc 47 V V V V V (Zc 48 V V V V V (Zc 49 V V V V V (Za 50 V V V (Zl V V V (Za 51 V V V (Zf V V (Zc 52 V V V V V (Zc 53 V V V V V (Zc 54 V V V V V ?_)))))))))))))
      refine Zc 55 V V V V V (Zc 56 V V V V V (Zc 57 V V V V V (Zc 58 V V V V V (Za 59 V V V (Zl V V V (Za 60 V V V (Zf V V (Zc 61 V V V V V (Zc 62 V V V V V (Zc 63 V V V V V (Zc 64 V V V V V (Zc 65 V V V V V (Zc 66 V V V V V ?_)))))))))))))
      refine Za 67 V V V (Zl V V V (Xg (Xj V ?_ by5 by3)))
      simp_all; done
     skip
     refine Zc 35 V V V V V (Zc 36 V V V V V (Zc 37 V V V V V (Zc 38 V V V V V (Zc 39 V V V V V (Zc 40 V V V V V (Za 41 V V V (Zl V V V (Za 42 V V V (Zf V V (Zc 43 V V V V V (Zc 44 V V V V V (Zc 45 V V V V V (Zc 46 V V V V V ?_)))))))))))))
     refine Zc 47 V V V V V (Zc 48 V V V V V (Zc 49 V V V V V (Za 50 V V V (Zl V V V (Za 51 V V V (Zf V V (Zc 52 V V V V V (Zc 53 V V V V V (Zc 54 V V V V V (Zc 55 V V V V V (Zc 56 V V V V V (Zc 57 V V V V V (Zc 58 V V V V V ?_)))))))))))))
     refine Za 59 V V V (Zl V V V (Za 60 V V V (Zf V V (Zc 61 V V V V V (Zc 62 V V V V V (Zc 63 V V V V V (Zc 64 V V V V V (Zc 65 V V V V V (Zc 66 V V V V V (Za 67 V V V (Zl V V V (Xg (Xj V ?_ by5 by3)))))))))))))
     simp_all; done
    skip
    refine Zc 27 V V V V V (Zc 28 V V V V V (Zc 29 V V V V V (Zc 30 V V V V V (Zc 31 V V V V V (Zc 32 V V V V V (Za 33 V V V (Zl V V V (Za 34 V V V (Zf V V (Zc 35 V V V V V (Zc 36 V V V V V (Zc 37 V V V V V (Zc 38 V V V V V ?_)))))))))))))
    refine Zc 39 V V V V V (Zc 40 V V V V V (Za 41 V V V (Zl V V V (Za 42 V V V (Zf V V (Zc 43 V V V V V (Zc 44 V V V V V (Zc 45 V V V V V (Zc 46 V V V V V (Zc 47 V V V V V (Zc 48 V V V V V (Zc 49 V V V V V (Za 50 V V V (Zl V V V ?_))))))))))))))
    refine Za 51 V V V (Zf V V (Zc 52 V V V V V (Zc 53 V V V V V (Zc 54 V V V V V (Zc 55 V V V V V (Zc 56 V V V V V (Zc 57 V V V V V (Zc 58 V V V V V (Za 59 V V V (Zl V V V (Za 60 V V V (Zf V V (Zc 61 V V V V V (Zc 62 V V V V V ?_))))))))))))))
    refine Zc 63 V V V V V (Zc 64 V V V V V (Zc 65 V V V V V (Zc 66 V V V V V (Za 67 V V V (Zl V V V (Xg (Xj V ?_ by5 by3)))))))
    simp_all; done
   skip
   refine Zc 20 V V V V V (Zc 21 V V V V V (Zc 22 V V V V V (Zc 23 V V V V V (Zc 24 V V V V V (Za 25 V V V (Zl V V V (Za 26 V V V (Zf V V (Zc 27 V V V V V (Zc 28 V V V V V (Zc 29 V V V V V (Zc 30 V V V V V (Zc 31 V V V V V ?_)))))))))))))
   refine Zc 32 V V V V V (Za 33 V V V (Zl V V V (Za 34 V V V (Zf V V (Zc 35 V V V V V (Zc 36 V V V V V (Zc 37 V V V V V (Zc 38 V V V V V (Zc 39 V V V V V (Zc 40 V V V V V (Za 41 V V V (Zl V V V (Za 42 V V V (Zf V V (Zc 43 V V V V V ?_)))))))))))))))
   refine Zc 44 V V V V V (Zc 45 V V V V V (Zc 46 V V V V V (Zc 47 V V V V V (Zc 48 V V V V V (Zc 49 V V V V V (Za 50 V V V (Zl V V V (Za 51 V V V (Zf V V (Zc 52 V V V V V (Zc 53 V V V V V (Zc 54 V V V V V (Zc 55 V V V V V ?_)))))))))))))
   refine Zc 56 V V V V V (Zc 57 V V V V V (Zc 58 V V V V V (Za 59 V V V (Zl V V V (Za 60 V V V (Zf V V (Zc 61 V V V V V (Zc 62 V V V V V (Zc 63 V V V V V (Zc 64 V V V V V (Zc 65 V V V V V (Zc 66 V V V V V (Za 67 V V V (Zl V V V ?_))))))))))))))
   refine Xg (Xj V ?_ by5 by3)
   simp_all; done
  skip
  refine Zc 13 V V V V V (Zc 14 V V V V V (Zc 15 V V V V V (Zc 16 V V V V V (Zc 17 V V V V V (Za 18 V V V (Zl V V V (Za 19 V V V (Zf V V (Zc 20 V V V V V (Zc 21 V V V V V (Zc 22 V V V V V (Zc 23 V V V V V (Zc 24 V V V V V ?_)))))))))))))
  refine Za 25 V V V (Zl V V V (Za 26 V V V (Zf V V (Zc 27 V V V V V (Zc 28 V V V V V (Zc 29 V V V V V (Zc 30 V V V V V (Zc 31 V V V V V (Zc 32 V V V V V (Za 33 V V V (Zl V V V (Za 34 V V V (Zf V V (Zc 35 V V V V V (Zc 36 V V V V V ?_)))))))))))))))
  refine Zc 37 V V V V V (Zc 38 V V V V V (Zc 39 V V V V V (Zc 40 V V V V V (Za 41 V V V (Zl V V V (Za 42 V V V (Zf V V (Zc 43 V V V V V (Zc 44 V V V V V (Zc 45 V V V V V (Zc 46 V V V V V (Zc 47 V V V V V (Zc 48 V V V V V ?_)))))))))))))
  refine Zc 49 V V V V V (Za 50 V V V (Zl V V V (Za 51 V V V (Zf V V (Zc 52 V V V V V (Zc 53 V V V V V (Zc 54 V V V V V (Zc 55 V V V V V (Zc 56 V V V V V (Zc 57 V V V V V (Zc 58 V V V V V (Za 59 V V V (Zl V V V (Za 60 V V V (Zf V V ?_)))))))))))))))
  refine Zc 61 V V V V V (Zc 62 V V V V V (Zc 63 V V V V V (Zc 64 V V V V V (Zc 65 V V V V V (Zc 66 V V V V V (Za 67 V V V (Zl V V V (Xg (Xj V ?_ by5 by3)))))))))
  simp_all; done
 intro c67 h67
 refine Zb ?_
 rcases Zj h67 with ⟨rfl, g67⟩ | ⟨rfl, g67⟩
 ·refine Zp V (Yb (Zb (Zh (Zh (Zd (Za 5 V V V (Ze V V (Xg (Zb (Yc ?_))))))))))
  obtain ⟨e1, e2, e3, e4, e5, e6, e7, e8⟩ := Classical.not_not.1 g67
  apply Xf [0, 1, 4, 5, 7, 8, 9, 10, 11, 12, 13, 14, 15, 16, 17, 18, 19, 20, 21, 22, 23, 24, 25, 26, 27, 28, 29, 30, 31, 32, 33, 34, 35, 36, 37, 38, 39, 40, 41, 42, 43, 44, 45, 46, 47, 48, 49, 50, 51, 52, 53, 54, 55, 56, 57, 58, 59, 60, 61, 62, 63, 64, 65, 66, 67, 68, 69, 70, 71, 72, 73, 74, 75, 76, 77, 78, 79, 80, 81, 82, 83, 84, 85, 86] (σ := Nat) (fun zz => match zz with | i => [(5, .val (.int .i64 i))]) (fun zz => match zz with | i => i ≤ ks1.length ∧ Upto (ks1.map Co.bare) (ks2.map Co.bare) i) (fun zz => match zz with | i => ks1.length - i) (0)
  ·repeat' (first | exact Xn | apply Xl rfl | apply Xm rfl)
  ·exact ⟨by omega, Upto.zero _ _⟩
  ·exact by4
  rintro i hI
  try dsimp only [List.cons_append, List.nil_append] at hI ⊢
  obtain ⟨hi, hu⟩ := hI
  refine Zh (Zh (Zd (Za 68 V V V (Zf V V (Za 69 V V V (Zg V tf_29_5 V V (Za 70 V V V (Zk V ta_25 V V ?_))))))))
  refine Za 71 V V V (Yi V tu_25 V (.seq _ _) (fun n71 => ?_))
  refine Za 72 V V V (Yr V V V ?_); intro c72 h72
  refine Xg (Zb ?_)
  rcases Zj h72 with ⟨rfl, g72⟩ | ⟨rfl, g72⟩
  ·refine Zp V (Yu (Yw (x_lp (Yv (Zb (Zh (Zh (Zd (Za 6 V V V (Ze V V (Xg (Zb (Yc ?_)))))))))))))
   have hks := hu.eq (by simpa using e6) (by simp; omega)
   apply Xf [0, 1, 4, 5, 6, 7, 8, 9, 10, 11, 12, 13, 14, 15, 16, 17, 18, 19, 20, 21, 22, 23, 24, 25, 26, 27, 28, 29, 30, 31, 32, 33, 34, 35, 36, 37, 38, 39, 40, 41, 42, 43, 44, 45, 46, 47, 48, 49, 50, 51, 52, 53, 54, 55, 56, 57, 58, 59, 60, 61, 62, 63, 64, 65, 66, 67, 68, 69, 70, 71, 72, 73, 74, 75, 76, 77, 78, 79, 80, 81, 82, 83, 84, 85, 86, 87, 88, 89, 90, 91, 92, 93, 94, 95, 96, 97, 98, 99, 100, 101, 102, 103, 104, 105, 106, 107, 108, 109, 110, 111, 112, 113, 114, 115, 116, 117, 118, 119, 120, 121, 122, 123] (σ := Nat) (fun zz => match zz with | j => [(6, .val (.int .i64 j))]) (fun zz => match zz with | j => j ≤ al1.length ∧ Upto (al1.map Ca.bare) (al2.map Ca.bare) j) (fun zz => match zz with | j => al1.length - j) (0)
   ·repeat' (first | exact Xn | apply Xl rfl | apply Xm rfl)
   ·exact ⟨by omega, Upto.zero _ _⟩
   ·exact by4
   rintro j hI
   try dsimp only [List.cons_append, List.nil_append] at hI ⊢
   obtain ⟨hj, hv⟩ := hI
   refine Zh (Zh (Zd (Za 87 V V V (Zf V V (Za 88 V V V (Zg V tf_29_6 V V (Za 89 V V V (Zk V ta_26 V V ?_))))))))
   refine Za 90 V V V (Yi V tu_26 V (.seq _ _) (fun n90 => ?_))
   refine Za 91 V V V (Yr V V V ?_); intro c91 h91
   refine Xg (Zb ?_)
   rcases Zj h91 with ⟨rfl, g91⟩ | ⟨rfl, g91⟩
   ·refine Zp V (Yu (Yw (x_lp (Yv (Zb (Zh (Zd (Za 4 V V V (Ze V V (Xg (Zb (Zx ?_))))))))))))
    exact Zv V V (Xi _) by3 ⟨⟨_, iff_t ⟨e1, e2, e3, e4, e5, hks, hv.eq (by simpa using e7) (by simp; omega), e8⟩, V⟩, V⟩
   refine Zq V (Yb (Zb (Zh (Yc (Zh ?_)))))
   obtain ⟨⟨⟨xqk, xqs, xqn, xqks, xqp⟩, ⟨xk, xs, xn, ⟨xtk, xts, xtn, xtks⟩, xus, xks, xal, xbs⟩⟩, hx⟩ := Yj (l := al1) (i := j) (by omega)
   obtain ⟨⟨⟨yqk, yqs, yqn, yqks, yqp⟩, ⟨yk, ys, yn, ⟨ytk, yts, ytn, ytks⟩, yus, yks, yal, ybs⟩⟩, hy⟩ := Yj (l := al2) (i := j) (by omega)
   have hcx := Ca.cellss_get hx
   have hcy := Ca.cellss_get hy
   have HS := HA _ (Xp hx) ⟨yk, ys, yn, ⟨ytk, yts, ytn, ytks⟩, yus, yks, yal, ybs⟩
   have HP := rSamePat_c ⟨xqk, xqs, xqn, xqks, xqp⟩ ⟨yqk, yqs, yqn, yqks, yqp⟩
   have hne := fun e => map_ne Ca.bare hx hy e
   have heq := fun e => upto_map Ca.bare hv hx hy e
   rw [Ca.bare_iff] at hne heq
   simp only [Ca.e] at HS
   generalize (Co.mk xk xs xn ⟨xtk, xts, xtn, xtks⟩ xus xks xal xbs).bare = ex at *
   generalize (Co.mk yk ys yn ⟨ytk, yts, ytn, ytks⟩ yus yks yal ybs).bare = ey at *
   generalize (Pa.mk xqk xqs xqn xqks xqp).bare = qx at *
   generalize (Pa.mk yqk yqs yqn yqks yqp).bare = qy at *
   refine c_boold 123 (¬ (qx = qy ∧ ex = ey)) tmix V ?_ _ _ V ?_
   ·skip
    refine Zm 94 V V (Zg V tf_29_6 V V ⟨V, V⟩) ?_
    refine Zm 95 V V (Zk V ta_26 V V ⟨V, V⟩) ?_
    refine Zm 96 V V (Zf V V ⟨V, V⟩) ?_
    refine Zm 97 V V (Zz V te_26 V (.seq _ _) V V (by first | exact hcx | exact hcy) ⟨V, V⟩) ?_
    refine Zm 98 V V (Zg V tf_69_0 V V ⟨V, V⟩) ?_
    refine Zm 99 V V (Zn (cs' := [_, _, _, _, _]) V ta_67 V V V ⟨V, V⟩) ?_
    refine Zm 100 V V (Zg V tf_29_6 V V ⟨V, V⟩) ?_
    refine Zm 101 V V (Zk V ta_26 V V ⟨V, V⟩) ?_
    refine Zm 102 V V (Zf V V ⟨V, V⟩) ?_
    refine Zm 103 V V (Zz V te_26 V (.seq _ _) V V (by first | exact hcx | exact hcy) ⟨V, V⟩) ?_
    refine Zm 104 V V (Zg V tf_69_0 V V ⟨V, V⟩) ?_
    refine Zm 105 V V (Zn (cs' := [_, _, _, _, _]) V ta_67 V V V ⟨V, V⟩) ?_
    refine DOps.cm 106 V V (fun _ q => Yh (xs := [.tmp 99, .tmp 105]) V V (HP) by1 q) ?_; intro c106 h106
    refine DOps.cm 107 V V (fun _ q => Yn V V q) ?_; intro c107 h107
    try replace h107 := nott h107 h106
    refine Zm 108 V V (Zf V V ⟨V, V⟩) ?_
    rcases Zj h107 with ⟨rfl, g107⟩ | ⟨rfl, g107⟩
    ·skip
     refine Yk 109 V V V V (Zg V tf_29_6 V V ⟨V, V⟩) ?_
     refine Yk 110 V V V V (Zk V ta_26 V V ⟨V, V⟩) ?_
     refine Yk 111 V V V V (Zf V V ⟨V, V⟩) ?_
     refine Yk 112 V V V V (Zz V te_26 V (.seq _ _) V V (by first | exact hcx | exact hcy) ⟨V, V⟩) ?_
     refine Yk 113 V V V V (Zg V tf_69_1 V V ⟨V, V⟩) ?_
     refine Yk 114 V V V V (Zn (cs' := [_, _, _, _, _, _, _, _, _, _, _]) V Yz V V V ⟨V, V⟩) ?_
     refine Yk 115 V V V V (Zg V tf_29_6 V V ⟨V, V⟩) ?_
     refine Yk 116 V V V V (Zk V ta_26 V V ⟨V, V⟩) ?_
     refine Yk 117 V V V V (Zf V V ⟨V, V⟩) ?_
     refine Yk 118 V V V V (Zz V te_26 V (.seq _ _) V V (by first | exact hcx | exact hcy) ⟨V, V⟩) ?_
     refine Yk 119 V V V V (Zg V tf_69_1 V V ⟨V, V⟩) ?_
     refine Yk 120 V V V V (Zn (cs' := [_, _, _, _, _, _, _, _, _, _, _]) V Yz V V V ⟨V, V⟩) ?_
     refine DOps.gtc 121 V V V V (fun _ q => Yh (xs := [.tmp 114, .tmp 120]) V V (HS) by1 q) ?_; intro c121 h121
     refine DOps.gtc 122 V V V V (fun _ q => Yn V V q) ?_; intro c122 h122
     try replace h122 := nott h122 h121
     refine Zm 123 V V (Zl V V V ⟨V, V⟩) ?_
     show BoolQ _ _ _ _ _ _
     refine Xj V ?_ by5 by3
     simp_all
    skip
    refine Zu 109 V V V V (Zu 110 V V V V (Zu 111 V V V V (Zu 112 V V V V (Zu 113 V V V V (Zu 114 V V V V (Zu 115 V V V V (Zu 116 V V V V (Zu 117 V V V V (Zu 118 V V V V (Zu 119 V V V V (Zu 120 V V V V ?_)))))))))))
    refine Zu 121 V V V V (Zu 122 V V V V (Zm 123 V V (Zl V V V ⟨V, V⟩) ?_))
    show BoolQ _ _ _ _ _ _
    refine Xj V ?_ by5 by3
    simp_all
   intro c123 h123
   refine Zb ?_
   rcases Zj h123 with ⟨rfl, g123⟩ | ⟨rfl, g123⟩
   ·refine Zp V (Yb (Yq (Zb (Zd (Za 92 V V V (Zf V V (Za 93 V V V (Yp V V V (Xo _ (by omega)) ?_))))))))
    refine Za 6 V V V (Ze V V (Xg (go_lp ?_)))
    exact ⟨j + 1, ⟨by omega, heq (Classical.not_not.1 g123)⟩, by simp; omega, by4, by3⟩
   refine Zq V (Zh (Zd (Za 4 V V V (Ze V V (Xg (Zb (Zx ?_)))))))
   exact Zv V V (Xi _) by3 ⟨⟨_, iff_f (fun q => hne g123 q.2.2.2.2.2.2.1), V⟩, V⟩
  refine Zq V (Yb (Zb (Zh (Yc (Zh ?_)))))
  obtain ⟨⟨xk, xs, xn, ⟨xtk, xts, xtn, xtks⟩, xus, xks, xal, xbs⟩, hx⟩ := Yj (l := ks1) (i := i) (by omega)
  obtain ⟨⟨yk, ys, yn, ⟨ytk, yts, ytn, ytks⟩, yus, yks, yal, ybs⟩, hy⟩ := Yj (l := ks2) (i := i) (by omega)
  have hcx := Co.cellss_get hx
  have hcy := Co.cellss_get hy
  refine c_drawn tmix V (Zm 75 V V (Zg V tf_29_5 V V ⟨V, V⟩) ?_)
  refine Zm 76 V V (Zk V ta_25 V V ⟨V, V⟩) ?_
  refine Zm 77 V V (Zf V V ⟨V, V⟩) ?_
  refine Zm 78 V V (Zz V te_25 V (.seq _ _) V V (by first | exact hcx | exact hcy) ⟨V, V⟩) ?_
  refine Zm 79 V V (Zn (cs' := [_, _, _, _, _, _, _, _, _, _, _]) V Yz V V V ⟨V, V⟩) ?_
  refine Zm 80 V V (Zg V tf_29_5 V V ⟨V, V⟩) ?_
  refine Zm 81 V V (Zk V ta_25 V V ⟨V, V⟩) ?_
  refine Zm 82 V V (Zf V V ⟨V, V⟩) ?_
  refine Zm 83 V V (Zz V te_25 V (.seq _ _) V V (by first | exact hcx | exact hcy) ⟨V, V⟩) ?_
  refine Zm 84 V V (Zn (cs' := [_, _, _, _, _, _, _, _, _, _, _]) V Yz V V V ⟨V, V⟩) ?_
  refine DOps.cm 85 V V (fun _ q => Yh (xs := [.tmp 79, .tmp 84]) V V (HK _ (Xp hx) ⟨yk, ys, yn, ⟨ytk, yts, ytn, ytks⟩, yus, yks, yal, ybs⟩) by1 q) ?_; intro c85 h85
  refine DOps.cm 86 V V (fun _ q => Yn V V q) ?_; intro c86 h86
  try replace h86 := nott h86 h85
  show AGo _ _ _ _ _ _ _
  refine Zb ?_
  rcases Zj h86 with ⟨rfl, g86⟩ | ⟨rfl, g86⟩
  ·refine Zp V (Yb (Yq (Zb (Zd (Za 73 V V V (Zf V V (Za 74 V V V (Yp V V V (Xo _ (by omega)) ?_))))))))
   refine Za 5 V V V (Ze V V (Xg (go_lp ?_)))
   exact ⟨i + 1, ⟨by omega, upto_map Co.bare hu hx hy (Classical.not_not.1 g86)⟩, by simp; omega, by4, by3⟩
  refine Zq V (Zh (Zd (Za 4 V V V (Ze V V (Xg (Zb (Zx ?_)))))))
  exact Zv V V (Xi _) by3 ⟨⟨_, iff_f (fun q => map_ne Co.bare hx hy g86 q.2.2.2.2.2.1), V⟩, V⟩
 refine Zq V (Zh (Zd (Za 4 V V V (Ze V V (Xg (Zb (Zx ?_)))))))
 exact Zv V V (Xi _) by3 ⟨⟨_, iff_f (fun q => g67 ⟨q.1, q.2.1, q.2.2.1, q.2.2.2.1, q.2.2.2.2.1, by simpa using congrArg List.length q.2.2.2.2.2.1, by simpa using congrArg List.length q.2.2.2.2.2.2.1, q.2.2.2.2.2.2.2⟩), V⟩, V⟩
termination_by SizeOf.sizeOf a
decreasing_by
 ·exact Co.lt_kid hx
 ·exact Nat.lt_trans (Ca.lt_e x) (Co.lt_alt hx)
 exact Nat.lt_trans (Cb.lt_e x) (Co.lt_bind hx)
theorem coSize_c (d : Nat) : ∀ e : Co, e.size ≤ d → e.size ≤ 1000000 → PCall Tryz.prog 11 [.agg e.cells] (.val (.int .i64 e.size)) := by
 induction d with
 | zero => intro e hd; cases e; rw [Co.size] at hd; omega
 | succ d ih =>
  rintro ⟨k, s, n, ⟨tk, ts, tn, tl⟩, us, ks, al, bs⟩ hd hz
  obtain ⟨Z, hZ⟩ : ∃ Z, (Co.mk k s n ⟨tk, ts, tn, tl⟩ us ks al bs).size = Z := ⟨_, rfl⟩
  rw [hZ] at hd hz ⊢
  rw [Co.size] at hZ
  have hlk := Co.cellss_len ks
  have hla := Ca.cellss_len al
  have hlb := Cb.cellss_len bs
  refine Zo Tryz.func11 V (by kernel_rfl) V (Xk V) ?_
  refine Ya (Zh (Zd (Za 1 V V V (Yl (cs' := [_, _, _, _, _, _, _, _, _, _, _]) V V V V (Za 2 V V V (Ze V V (Xg (Zb (Zh (Zd (Za 3 V V V (Ze V V (Xg (Zb (Zh (Zh (Zd (Za 10 V V V (Zg V tf_29_5 V V (Za 11 V V V (Zk V ta_25 V V ?_)))))))))))))))))))))
  refine Za 12 V V V (Yi V tu_25 V (.seq _ _) (fun n12 => ?_))
  refine Za 13 V V V (Zf V V (Xg (Zb (Yc ?_))))
  apply Xf [0, 3, 4, 5, 6, 8, 10, 13, 14, 15, 16, 17, 18, 19, 20, 21] (σ := Nat × Nat) (fun zz => match zz with | (i, m) => [(3, .val (.int .i64 m)), (13, .val (.int .i64 i))]) (fun zz => match zz with | (i, m) => i ≤ ks.length ∧ m + Co.sizes (ks.drop i) + Ca.sizes al + Cb.sizes bs = Z) (fun zz => match zz with | (i, m) => ks.length - i) ((0, 1))
  ·repeat' (first | exact Xn | apply Xl rfl | apply Xm rfl)
  ·exact ⟨Nat.zero_le _, by simpa using hZ⟩
  ·exact by4
  rintro ⟨i, m⟩ hI
  try dsimp only [List.cons_append, List.nil_append] at hI ⊢
  obtain ⟨hi, hm⟩ := hI
  refine Zh (Zd (Za 14 V V V (Yr V V V ?_))); intro c14 h14
  refine Xg (Zb (Zh ?_))
  rcases Zj h14 with ⟨rfl, g14⟩ | ⟨rfl, g14⟩
  ·refine Zp V (Yu (Yw (x_lp (Yv (Zb (Zh (Zh ?_)))))))
   rw [List.drop_of_length_le (by omega), Co.sizes] at hm
   refine Zd (Za 22 V V V (Zg V tf_29_6 V V (Za 23 V V V (Zk V ta_26 V V ?_))))
   refine Za 24 V V V (Yi V tu_26 V (.seq _ _) (fun n24 => ?_))
   refine Za 25 V V V (Zf V V (Xg (Zb (Yc ?_))))
   apply Xf [0, 3, 4, 5, 6, 7, 8, 10, 11, 12, 13, 14, 15, 16, 17, 18, 19, 20, 21, 22, 25, 26, 27, 28, 29, 30, 31, 32, 33, 34] (σ := Nat × Nat) (fun zz => match zz with | (i, m) => [(3, .val (.int .i64 m)), (25, .val (.int .i64 i))]) (fun zz => match zz with | (i, m) => i ≤ al.length ∧ m + Ca.sizes (al.drop i) + Cb.sizes bs = Z) (fun zz => match zz with | (i, m) => al.length - i) ((0, m))
   ·repeat' (first | exact Xn | apply Xl rfl | apply Xm rfl)
   ·exact ⟨Nat.zero_le _, by simpa using hm⟩
   ·exact by4
   rintro ⟨i, m⟩ hI
   try dsimp only [List.cons_append, List.nil_append] at hI ⊢
   obtain ⟨hi, hm⟩ := hI
   refine Zh (Zd (Za 26 V V V (Yr V V V ?_))); intro c26 h26
   refine Xg (Zb (Zh ?_))
   rcases Zj h26 with ⟨rfl, g26⟩ | ⟨rfl, g26⟩
   ·refine Zp V (Yu (Yw (x_lp (Yv (Zb (Zh (Zh ?_)))))))
    rw [List.drop_of_length_le (by omega), Ca.sizes] at hm
    refine Zd (Za 35 V V V (Zg V tf_29_7 V V (Za 36 V V V (Zk V ta_27 V V ?_))))
    refine Za 37 V V V (Yi V tu_27 V (.seq _ _) (fun n37 => ?_))
    refine Za 38 V V V (Zf V V (Xg (Zb (Yc ?_))))
    apply Xf [0, 1, 3, 4, 5, 6, 7, 8, 9, 10, 11, 12, 13, 14, 15, 16, 17, 18, 19, 20, 21, 22, 23, 24, 25, 26, 27, 28, 29, 30, 31, 32, 33, 34, 35, 38, 39, 40, 41, 42, 43, 44, 45, 46, 47] (σ := Nat × Nat) (fun zz => match zz with | (i, m) => [(3, .val (.int .i64 m)), (38, .val (.int .i64 i))]) (fun zz => match zz with | (i, m) => i ≤ bs.length ∧ m + Cb.sizes (bs.drop i) = Z) (fun zz => match zz with | (i, m) => bs.length - i) ((0, m))
    ·repeat' (first | exact Xn | apply Xl rfl | apply Xm rfl)
    ·exact ⟨Nat.zero_le _, by simpa using hm⟩
    ·exact by4
    rintro ⟨i, m⟩ hI
    try dsimp only [List.cons_append, List.nil_append] at hI ⊢
    obtain ⟨hi, hm⟩ := hI
    refine Zh (Zd (Za 39 V V V (Yr V V V ?_))); intro c39 h39
    refine Xg (Zb (Zh ?_))
    rcases Zj h39 with ⟨rfl, g39⟩ | ⟨rfl, g39⟩
    ·refine Zp V (Yu (Yw (x_lp (Yv (Zb (Zh (Zd (Za 48 V V V (Zf V V (Za 2 V V V (Ze V V (Xg (Zb (Zx ?_))))))))))))))
     rw [List.drop_of_length_le (by omega), Cb.sizes] at hm
     exact Zv V V (Le.ieq (by omega)) (Xh _) ⟨V, V⟩
    refine Zq V (Yb (Zb (Zh (Yc (Zh ?_)))))
    obtain ⟨⟨qb, qvs, ⟨qwk, qws, qwn, qwl⟩, ⟨qk, qs, qn, ⟨qtk, qts, qtn, qtl⟩, qus, qks, qal, qbs⟩⟩, hxq⟩ := Yj (l := bs) (i := i) by6
    have hcq := Cb.cellss_get hxq
    have hmq := Xp hxq
    rw [drop_at hxq, Cb.sizes, Cb.size] at hm
    have hsz := Cb.size_mem hmq
    rw [Cb.size] at hsz
    have IH := ih (Co.mk qk qs qn ⟨qtk, qts, qtn, qtl⟩ qus qks qal qbs) (by omega) (by omega)
    generalize (Co.mk qk qs qn ⟨qtk, qts, qtn, qtl⟩ qus qks qal qbs).size = z at *
    refine Zd (Za 40 V V V (Zz V te_27 V (.seq _ _) V V (hcq) (Za 41 V V V (Zn (cs' := [_, _, _, _, _, _, _, _, _, _, _, _, _, _, _, _, _]) V ta_46 V V V (Za 9 V V V (Zy (cs' := [_, _, _, _, _, _, _, _, _, _, _, _, _, _, _, _, _]) V tz_46 V V ?_)))))); intro b9
    refine Yf V V (Zw (cs' := [_, _, _, _, _, _, _, _, _, _, _, _, _, _, _, _, _]) (i := 0) V ts_46 V V V V V (Xk V) V (Xg (Zb (Zd (Za 42 V V V (Zf V V (Za 43 V V V (Zs V tf_46_3 V (Za 44 V V V (Zt (cs' := [_, _, _, _, _, _, _, _, _, _, _]) (i := 0) V Yz V V V V (Za 45 V V V (Yd (xs := [.tmp 44]) V V (IH) by1 ?_))))))))))))
    refine Za 46 V V V (Yp V V V (Xo _ (by omega)) ?_)
    refine Za 3 V V V (Ze V V (Xg (Yq (Zb (Zd (Za 47 V V V (Yp V V V (Xo _ (by omega)) ?_)))))))
    refine Za 38 V V V (Zf V V (Xg (go_lp ?_)))
    exact ⟨(i + 1, m + z), ⟨by show i + 1 ≤ bs.length; omega, by show m + z + Cb.sizes (bs.drop (i + 1)) = Z; omega⟩, by show bs.length - (i + 1) < bs.length - i; omega, by4, by3⟩
   refine Zq V (Yb (Zb (Zh (Yc (Zh ?_)))))
   obtain ⟨⟨⟨qqk, qqs, qqn, qql, qqp⟩, ⟨qk, qs, qn, ⟨qtk, qts, qtn, qtl⟩, qus, qks, qal, qbs⟩⟩, hxq⟩ := Yj (l := al) (i := i) by6
   have hcq := Ca.cellss_get hxq
   have hmq := Xp hxq
   rw [drop_at hxq, Ca.sizes, Ca.size] at hm
   have hsz := Ca.size_mem hmq
   rw [Ca.size] at hsz
   have IH := ih (Co.mk qk qs qn ⟨qtk, qts, qtn, qtl⟩ qus qks qal qbs) (by omega) (by omega)
   generalize (Co.mk qk qs qn ⟨qtk, qts, qtn, qtl⟩ qus qks qal qbs).size = z at *
   refine Zd (Za 27 V V V (Zz V te_26 V (.seq _ _) V V (hcq) (Za 28 V V V (Zn (cs' := [_, _, _, _, _, _, _, _, _, _, _, _, _, _, _, _]) V ta_69 V V V (Za 7 V V V (Zy (cs' := [_, _, _, _, _, _, _, _, _, _, _, _, _, _, _, _]) V tz_69 V V ?_)))))); intro b7
   refine Yf V V (Zw (cs' := [_, _, _, _, _, _, _, _, _, _, _, _, _, _, _, _]) (i := 0) V ts_69 V V V V V (Xk V) V (Xg (Zb (Zd (Za 29 V V V (Zf V V (Za 30 V V V (Zs V tf_69_1 V (Za 31 V V V (Zt (cs' := [_, _, _, _, _, _, _, _, _, _, _]) (i := 0) V Yz V V V V (Za 32 V V V (Yd (xs := [.tmp 31]) V V (IH) by1 ?_))))))))))))
   refine Za 33 V V V (Yp V V V (Xo _ (by omega)) ?_)
   refine Za 3 V V V (Ze V V (Xg (Yq (Zb (Zd (Za 34 V V V (Yp V V V (Xo _ (by omega)) ?_)))))))
   refine Za 25 V V V (Zf V V (Xg (go_lp ?_)))
   exact ⟨(i + 1, m + z), ⟨by show i + 1 ≤ al.length; omega, by show m + z + Ca.sizes (al.drop (i + 1)) + Cb.sizes bs = Z; omega⟩, by show al.length - (i + 1) < al.length - i; omega, by4, by3⟩
  refine Zq V (Yb (Zb (Zh (Yc (Zh ?_)))))
  obtain ⟨⟨qk, qs, qn, ⟨qtk, qts, qtn, qtl⟩, qus, qks, qal, qbs⟩, hxq⟩ := Yj (l := ks) (i := i) by6
  have hcq := Co.cellss_get hxq
  have hmq := Xp hxq
  rw [drop_at hxq, Co.sizes] at hm
  have hsz := Co.size_mem hmq
  have IH := ih (Co.mk qk qs qn ⟨qtk, qts, qtn, qtl⟩ qus qks qal qbs) (by omega) (by omega)
  generalize (Co.mk qk qs qn ⟨qtk, qts, qtn, qtl⟩ qus qks qal qbs).size = z at *
  refine Zd (Za 15 V V V (Zz V te_25 V (.seq _ _) V V (hcq) (Za 16 V V V (Zn (cs' := [_, _, _, _, _, _, _, _, _, _, _]) V Yz V V V (Za 5 V V V (Zy (cs' := [_, _, _, _, _, _, _, _, _, _, _]) V tz_29 V V ?_)))))); intro b5
  refine Yf V V (Zw (cs' := [_, _, _, _, _, _, _, _, _, _, _]) (i := 0) V ts_29 V V V V V (Xk V) V (Xg (Zb (Zd (Za 17 V V V (Zf V V (Za 18 V V V (Zt (cs' := [_, _, _, _, _, _, _, _, _, _, _]) (i := 0) V Yz V V V V (Za 19 V V V (Yd (xs := [.tmp 18]) V V (IH) by1 ?_))))))))))
  refine Za 20 V V V (Yp V V V (Xo _ (by omega)) ?_)
  refine Za 3 V V V (Ze V V (Xg (Yq (Zb (Zd (Za 21 V V V (Yp V V V (Xo _ (by omega)) ?_)))))))
  refine Za 13 V V V (Zf V V (Xg (go_lp ?_)))
  exact ⟨(i + 1, m + z), ⟨by show i + 1 ≤ ks.length; omega, by show m + z + Co.sizes (ks.drop (i + 1)) + Ca.sizes al + Cb.sizes bs = Z; omega⟩, by show ks.length - (i + 1) < ks.length - i; omega, by4, by3⟩
theorem coAll_c (d : Nat) : ∀ e : Co, e.size ≤ d → e.size ≤ 1000000 → PCall Tryz.prog 12 [.agg e.cells] (.seq 11 (Co.cellss e.all)) := by
 induction d with
 | zero => intro e hd; cases e; rw [Co.size] at hd; omega
 | succ d ih =>
  rintro ⟨k, s, n, ⟨tk, ts, tn, tl⟩, us, ks, al, bs⟩ hd hz
  obtain ⟨Z, hZ⟩ : ∃ Z, (Co.mk k s n ⟨tk, ts, tn, tl⟩ us ks al bs).all = Z := ⟨_, rfl⟩
  have hzl : Z.length ≤ 1000000 := by rw [← hZ, Co.all_len]; exact hz
  rw [hZ]
  rw [Co.all] at hZ
  rw [Co.size] at hd hz
  have hlk := Co.cellss_len ks
  have hla := Ca.cellss_len al
  have hlb := Cb.cellss_len bs
  refine Zo Tryz.func12 V (by kernel_rfl) V (Xk V) ?_
  refine Ya (Zh (Zd (Za 1 V V V (Yl (cs' := [_, _, _, _, _, _, _, _, _, _, _]) V V V V (Za 2 V V V (Ze V V (Xg (Zb (Zh (Zd (Za 7 V V V (Zn (cs' := [_, _, _, _, _, _, _, _, _, _, _]) V Yz V V V (Za 8 V V V (op_buildSlice_own (xs := [.tmp 7]) el_25 V V V V V V (Xk V) ?_)))))))))))))); intro u8
  refine Za 3 V V V (Ze V V (Xg (Zb (Zh (Zh (Zd (Za 4 V V V (Ze V V (Xg (Zb (Yc ?_)))))))))))
  apply c_loopk [0, 3, 4, 7, 8, 9, 10, 11, 12, 13, 14, 15, 16, 17, 18, 19, 20, 21, 22, 23] (σ := Nat × List Co × Value) (fun zz => match zz with | (i, out, u) => [(3, .own u 11 (Co.cellss out)), (4, .val (.int .i64 i))]) (fun zz => match zz with | (i, out, u) => [.own 29 11 u]) (fun zz => match zz with | (i, out, u) => i ≤ ks.length ∧ out ++ (Co.alls (ks.drop i) ++ (Ca.alls al ++ Cb.alls bs)) = Z) (fun zz => match zz with | (i, out, u) => ks.length - i) ((0, [.mk k s n ⟨tk, ts, tn, tl⟩ us ks al bs], u8))
  ·repeat' (first | exact Xn | apply Xl rfl | apply Xm rfl)
  ·exact ⟨Nat.zero_le _, hZ⟩
  ·exact by4
  ·exact by3
  rintro ⟨i, out, u⟩ hI
  try dsimp only [List.cons_append, List.nil_append] at hI ⊢
  obtain ⟨hi, hm⟩ := hI
  have hol := Co.cellss_len out
  refine Zh (Zh (Zd (Za 9 V V V (Zf V V (Za 10 V V V (Zg V tf_29_5 V V (Za 11 V V V (Zk V ta_25 V V ?_))))))))
  refine Za 12 V V V (Yi V tu_25 V (.seq _ _) (fun n12 => ?_))
  refine Za 13 V V V (Yr V V V ?_); intro c13 h13
  refine Xg (Zb ?_)
  rcases Zj h13 with ⟨rfl, g13⟩ | ⟨rfl, g13⟩
  ·refine Zp V (Yu (Yw (x_lp (Yv (Zb (Zh (Zh ?_)))))))
   rw [List.drop_of_length_le (by omega), Co.alls, List.nil_append] at hm
   refine Zd (Za 5 V V V (Ze V V (Xg (Zb (Yc ?_)))))
   apply c_loopk [0, 3, 4, 5, 7, 8, 9, 10, 11, 12, 13, 14, 15, 16, 17, 18, 19, 20, 21, 22, 23, 24, 25, 26, 27, 28, 29, 30, 31, 32, 33, 34, 35, 36, 37, 38, 39] (σ := Nat × List Co × Value) (fun zz => match zz with | (i, out, u) => [(3, .own u 11 (Co.cellss out)), (5, .val (.int .i64 i))]) (fun zz => match zz with | (i, out, u) => [.own 29 11 u]) (fun zz => match zz with | (i, out, u) => i ≤ al.length ∧ out ++ (Ca.alls (al.drop i) ++ Cb.alls bs) = Z) (fun zz => match zz with | (i, out, u) => al.length - i) ((0, out, u))
   ·repeat' (first | exact Xn | apply Xl rfl | apply Xm rfl)
   ·exact ⟨Nat.zero_le _, hm⟩
   ·exact by4
   ·exact by3
   rintro ⟨i, out, u⟩ hI
   try dsimp only [List.cons_append, List.nil_append] at hI ⊢
   obtain ⟨hi, hm⟩ := hI
   have hol := Co.cellss_len out
   refine Zh (Zh (Zd (Za 24 V V V (Zf V V (Za 25 V V V (Zg V tf_29_6 V V (Za 26 V V V (Zk V ta_26 V V ?_))))))))
   refine Za 27 V V V (Yi V tu_26 V (.seq _ _) (fun n27 => ?_))
   refine Za 28 V V V (Yr V V V ?_); intro c28 h28
   refine Xg (Zb ?_)
   rcases Zj h28 with ⟨rfl, g28⟩ | ⟨rfl, g28⟩
   ·refine Zp V (Yu (Yw (x_lp (Yv (Zb (Zh (Zh ?_)))))))
    rw [List.drop_of_length_le (by omega), Ca.alls, List.nil_append] at hm
    refine Zd (Za 6 V V V (Ze V V (Xg (Zb (Yc ?_)))))
    apply c_loopk [0, 3, 4, 5, 6, 7, 8, 9, 10, 11, 12, 13, 14, 15, 16, 17, 18, 19, 20, 21, 22, 23, 24, 25, 26, 27, 28, 29, 30, 31, 32, 33, 34, 35, 36, 37, 38, 39, 40, 41, 42, 43, 44, 45, 46, 47, 48, 49, 50, 51, 52, 53, 54, 55] (σ := Nat × List Co × Value) (fun zz => match zz with | (i, out, u) => [(3, .own u 11 (Co.cellss out)), (6, .val (.int .i64 i))]) (fun zz => match zz with | (i, out, u) => [.own 29 11 u]) (fun zz => match zz with | (i, out, u) => i ≤ bs.length ∧ out ++ Cb.alls (bs.drop i) = Z) (fun zz => match zz with | (i, out, u) => bs.length - i) ((0, out, u))
    ·repeat' (first | exact Xn | apply Xl rfl | apply Xm rfl)
    ·exact ⟨Nat.zero_le _, hm⟩
    ·exact by4
    ·exact by3
    rintro ⟨i, out, u⟩ hI
    try dsimp only [List.cons_append, List.nil_append] at hI ⊢
    obtain ⟨hi, hm⟩ := hI
    have hol := Co.cellss_len out
    refine Zh (Zh (Zd (Za 40 V V V (Zf V V (Za 41 V V V (Zg V tf_29_7 V V (Za 42 V V V (Zk V ta_27 V V ?_))))))))
    refine Za 43 V V V (Yi V tu_27 V (.seq _ _) (fun n43 => ?_))
    refine Za 44 V V V (Yr V V V ?_); intro c44 h44
    refine Xg (Zb ?_)
    rcases Zj h44 with ⟨rfl, g44⟩ | ⟨rfl, g44⟩
    ·refine Zp V (Yu (Yw (x_lp (Yv (Zb (Zh (Zd (Za 56 V V V (Zf V V (Za 2 V V V (Ze V V (Xg (Zb (Zx ?_))))))))))))))
     rw [List.drop_of_length_le (by omega), Cb.alls, List.append_nil] at hm
     subst hm
     exact Zv V V (Le.own _ _ _) (Xh _) ⟨V, V⟩
    refine Zq V (Yb (Zb (Zh (Yc ?_))))
    obtain ⟨⟨qb, qvs, ⟨qwk, qws, qwn, qwl⟩, ⟨qk, qs, qn, ⟨qtk, qts, qtn, qtl⟩, qus, qks, qal, qbs⟩⟩, hxq⟩ := Yj (l := bs) (i := i) by6
    have hcq := Cb.cellss_get hxq
    have hmq := Xp hxq
    rw [drop_at hxq, Cb.alls, Cb.all] at hm
    have hlen := congrArg List.length hm
    simp only [List.length_append] at hlen
    have hsz := Cb.size_mem hmq
    rw [Cb.size] at hsz
    have IH := ih (Co.mk qk qs qn ⟨qtk, qts, qtn, qtl⟩ qus qks qal qbs) (by omega) (by omega)
    generalize (Co.mk qk qs qn ⟨qtk, qts, qtn, qtl⟩ qus qks qal qbs).all = z at *
    have hzc := Co.cellss_len z
    refine Zd (Za 47 V V V (Zf V V (Za 48 V V V (Zg V tf_29_7 V V (Za 49 V V V (Zk V ta_27 V V (Za 50 V V V (Zf V V (Za 51 V V V (Zz V te_27 V (.seq _ _) V V (hcq) (Za 52 V V V (Zg V tf_46_3 V V (Za 53 V V V (Zn (cs' := [_, _, _, _, _, _, _, _, _, _, _]) V Yz V V V (Za 54 V V V (Yd (xs := [.tmp 53]) V V (IH) by1 ?_))))))))))))))))
    refine Za 55 V V V (op_append (i := 0) el_25 V V V V (.seq _ _) (by first | (simp; done) | (simp; omega) | omega) ?_)
    intro u55
    refine Za 3 V V V (Ze V V (Xg (Yq (Zb (Zd (Za 45 V V V (Zf V V (Za 46 V V V (Yp V V V (Xo _ (by omega)) ?_)))))))))
    refine Za 6 V V V (Ze V V (Xg (go_lp ?_)))
    exact ⟨(i + 1, out ++ z, u55), ⟨by show i + 1 ≤ bs.length; omega, by rw [← hm]; simp only [List.append_assoc]⟩, by show bs.length - (i + 1) < bs.length - i; omega, SLe.cons V (Le.own_eq (Co.cellss_app _ _).symm) by4, by3⟩
   refine Zq V (Yb (Zb (Zh (Yc ?_))))
   obtain ⟨⟨⟨qqk, qqs, qqn, qql, qqp⟩, ⟨qk, qs, qn, ⟨qtk, qts, qtn, qtl⟩, qus, qks, qal, qbs⟩⟩, hxq⟩ := Yj (l := al) (i := i) by6
   have hcq := Ca.cellss_get hxq
   have hmq := Xp hxq
   rw [drop_at hxq, Ca.alls, Ca.all] at hm
   have hlen := congrArg List.length hm
   simp only [List.length_append] at hlen
   have hsz := Ca.size_mem hmq
   rw [Ca.size] at hsz
   have IH := ih (Co.mk qk qs qn ⟨qtk, qts, qtn, qtl⟩ qus qks qal qbs) (by omega) (by omega)
   generalize (Co.mk qk qs qn ⟨qtk, qts, qtn, qtl⟩ qus qks qal qbs).all = z at *
   have hzc := Co.cellss_len z
   refine Zd (Za 31 V V V (Zf V V (Za 32 V V V (Zg V tf_29_6 V V (Za 33 V V V (Zk V ta_26 V V (Za 34 V V V (Zf V V (Za 35 V V V (Zz V te_26 V (.seq _ _) V V (hcq) (Za 36 V V V (Zg V tf_69_1 V V (Za 37 V V V (Zn (cs' := [_, _, _, _, _, _, _, _, _, _, _]) V Yz V V V (Za 38 V V V (Yd (xs := [.tmp 37]) V V (IH) by1 ?_))))))))))))))))
   refine Za 39 V V V (op_append (i := 0) el_25 V V V V (.seq _ _) (by first | (simp; done) | (simp; omega) | omega) ?_)
   intro u39
   refine Za 3 V V V (Ze V V (Xg (Yq (Zb (Zd (Za 29 V V V (Zf V V (Za 30 V V V (Yp V V V (Xo _ (by omega)) ?_)))))))))
   refine Za 5 V V V (Ze V V (Xg (go_lp ?_)))
   exact ⟨(i + 1, out ++ z, u39), ⟨by show i + 1 ≤ al.length; omega, by rw [← hm]; simp only [List.append_assoc]⟩, by show al.length - (i + 1) < al.length - i; omega, SLe.cons V (Le.own_eq (Co.cellss_app _ _).symm) by4, by3⟩
  refine Zq V (Yb (Zb (Zh (Yc ?_))))
  obtain ⟨⟨qk, qs, qn, ⟨qtk, qts, qtn, qtl⟩, qus, qks, qal, qbs⟩, hxq⟩ := Yj (l := ks) (i := i) by6
  have hcq := Co.cellss_get hxq
  have hmq := Xp hxq
  rw [drop_at hxq, Co.alls] at hm
  have hlen := congrArg List.length hm
  simp only [List.length_append] at hlen
  have IH := ih (Co.mk qk qs qn ⟨qtk, qts, qtn, qtl⟩ qus qks qal qbs) (by have := Co.size_mem hmq; omega) (by have := Co.size_mem hmq; omega)
  generalize (Co.mk qk qs qn ⟨qtk, qts, qtn, qtl⟩ qus qks qal qbs).all = z at *
  have hzc := Co.cellss_len z
  refine Zd (Za 16 V V V (Zf V V (Za 17 V V V (Zg V tf_29_5 V V (Za 18 V V V (Zk V ta_25 V V (Za 19 V V V (Zf V V (Za 20 V V V (Zz V te_25 V (.seq _ _) V V (hcq) (Za 21 V V V (Zn (cs' := [_, _, _, _, _, _, _, _, _, _, _]) V Yz V V V (Za 22 V V V (Yd (xs := [.tmp 21]) V V (IH) by1 ?_))))))))))))))
  refine Za 23 V V V (op_append (i := 0) el_25 V V V V (.seq _ _) (by first | (simp; done) | (simp; omega) | omega) ?_)
  intro u23
  refine Za 3 V V V (Ze V V (Xg (Yq (Zb (Zd (Za 14 V V V (Zf V V (Za 15 V V V (Yp V V V (Xo _ (by omega)) ?_)))))))))
  refine Za 4 V V V (Ze V V (Xg (go_lp ?_)))
  exact ⟨(i + 1, out ++ z, u23), ⟨by show i + 1 ≤ ks.length; omega, by rw [← hm]; simp only [List.append_assoc]⟩, by show ks.length - (i + 1) < ks.length - i; omega, SLe.cons V (Le.own_eq (Co.cellss_app _ _).symm) by4, by3⟩
theorem count_c (d : Nat) : ∀ (t : Ty) (most : Int), t.size ≤ d → 1 ≤ most → most ≤ 1000000 → PCall Tryz.prog 39 [.agg t.cells, .val (.int .i64 most)] (.val (.int .i64 (t.cnt most))) := by
 induction d with
 | zero => intro t most hd; have := Ty.size_pos t; omega
 | succ d ih =>
  rintro ⟨k, s, n, ks⟩ most hd h1 h2
  have hl := Ty.cellss_len ks
  rw [Ty.size] at hd
  refine Zo Tryz.func39 V (by kernel_rfl) V (Xk V) ?_
  refine Ya ?_
  refine c_lena (t := 0) (j := 3) V V (.seq _ _) (fun hmax => ?_)
  refine Zh (Zd (Za 2 V V V (op_boxe (cs' := [_, _, _, _]) V V V V ?_))); intro b2
  refine Za 4 V V V (Ze V V (Xg (Zb (Zh (Zd (Za 5 V V V (Ze V V (Xg (Zb (Zh (Zh (Xe 20 (k = 1 ∧ (0 < ks.length ∨ n ≠ 0)) ?_ _ _ V ?_))))))))))))
  ·skip
   refine Za 7 V V V (Zs V tf_24_0 V (Za 8 V V V (Yg (i := 0) V ta_3 V V V (Za 9 V V V (op_eql V V V ?_))))); intro c9 h9
   refine Za 10 V V V (Zf V V ?_)
   rcases Zj h9 with ⟨rfl, g9⟩ | ⟨rfl, g9⟩
   ·skip
    refine Zc 11 V V V V V (Zc 12 V V V V V (Zc 13 V V V V V (Zc 14 V V V V V (Zc 15 V V V V V (AOps.gu 16 V V V V V (AOps.gu 17 V V V V V (AOps.gu 18 V V V V V (Zc 19 V V V V V (Za 20 V V V (Zl V V V (Xg (Xj V ?_ by5 by3))))))))))))
    simp_all
   skip
   refine Zi 11 V V V V V (Zs V Xa V (Zi 12 V V V V V (Yg (i := 0) V Xc V V V ?_)))
   refine Zi 13 V V V V V (Yi V tu_22 V (.seq _ _) (fun n13 => ?_))
   refine Zi 14 V V V V V (op_gtr V V V ?_); intro c14 h14
   refine Zi 15 V V V V V (Zf V V ?_)
   rcases Zj h14 with ⟨rfl, g14⟩ | ⟨rfl, g14⟩
   ·skip
    refine Zi 16 V V V V V (Zs V tf_24_2 V (Zi 17 V V V V V (Yg (i := 0) V ta_3 V V V (Zi 18 V V V V V (Xd V V V ?_))))); intro c18 h18
    refine Zi 19 V V V V V (Zl V V V (Za 20 V V V (Zl V V V (Xg (Xj V ?_ by5 by3)))))
    simp_all
   skip
   refine Zc 16 V V V V V (Zc 17 V V V V V (Zc 18 V V V V V (Zi 19 V V V V V (Zl V V V (Za 20 V V V (Zl V V V (Xg (Xj V ?_ by5 by3))))))))
   simp_all
  intro c20 h20
  refine Zb ?_
  rcases Zj h20 with ⟨rfl, g20⟩ | ⟨rfl, g20⟩
  ·refine Zp V (Yb (Zb (Zh (Zh (Zd (Za 6 V V V (Ze V V (Xg (Zb (Yc ?_))))))))))
   refine c_loop (σ := Nat × Int) (fun zz => match zz with | (i, m) => [(2, .ptr b2 0), (1, .val (.int .i64 most)), (5, .val (.int .i64 m)), (6, .val (.int .i64 i))]) (fun zz => match zz with | (i, m) => [.loc b2 [.val (.int .i64 k), .val (.string s), .val (.int .i64 n), .seq 4 (Ty.cellss ks)]]) (fun zz => match zz with | (i, m) => i ≤ ks.length ∧ 1 ≤ m ∧ m ≤ most ∧ Ty.cnts (ks.drop i) m most = Ty.cnt (.mk k s n ks) most) (fun zz => match zz with | (i, m) => ks.length - i) ((0, 1)) ?_ ?_ ?_ ?_
   ·exact ⟨by omega, by omega, h1, by rw [List.drop_zero, Ty.cnt_not (by simpa [Ty.kind, Ty.kids, Ty.num, List.length_pos_iff] using g20)]; rfl⟩
   ·exact by4
   ·exact by3
   rintro ⟨i, m⟩ hI
   try dsimp only [List.cons_append, List.nil_append] at hI ⊢
   obtain ⟨hi, m1, m2, hc⟩ := hI
   refine Zh (Zh (Xe 31 (i < ks.length ∧ m < most) ?_ _ _ V ?_))
   ·skip
    refine Za 22 V V V (Zf V V (Za 23 V V V (Zs V Xa V (Za 24 V V V (Yg (i := 0) V Xc V V V ?_)))))
    refine Za 25 V V V (Yi V tu_22 V (.seq _ _) (fun n25 => ?_))
    refine Za 26 V V V (Yr V V V ?_); intro c26 h26
    refine Za 27 V V V (Zf V V ?_)
    rcases Zj h26 with ⟨rfl, g26⟩ | ⟨rfl, g26⟩
    ·skip
     refine Zc 28 V V V V V (Zc 29 V V V V V (Zc 30 V V V V V (Za 31 V V V (Zl V V V (Xg (Xj V ?_ by5 by3))))))
     simp_all; done
    skip
    refine Zi 28 V V V V V (Zf V V (Zi 29 V V V V V (Zf V V (Zi 30 V V V V V (Yr V V V ?_))))); intro c30 h30
    refine Za 31 V V V (Zl V V V (Xg (Xj V ?_ by5 by3)))
    simp_all; done
   intro c31 h31
   refine Zb ?_
   rcases Zj h31 with ⟨rfl, g31⟩ | ⟨rfl, g31⟩
   ·refine Zp V (Yu (Yw (x_lp (Yv (Zb (Zh (Zd (Za 45 V V V (Zf V V (Za 4 V V V (Ze V V (Xg (Zb (Zx (Zv V V (Xi _) by3 ⟨?_, V⟩)))))))))))))))
    rw [← hc]
    by_cases e : i < ks.length
    ·obtain ⟨x, hx⟩ := Yj e
     rw [drop_at hx, Ty.cnts, if_neg (fun q => g31 ⟨e, q⟩)]
    rw [List.drop_eq_nil_of_le (by omega), Ty.cnts]
   refine Zq V (Yb (Zb (Zh (Yc ?_))))
   obtain ⟨⟨k', s', n', ks'⟩, hx⟩ := Yj g31.1
   have hcx := Ty.cellss_get hx
   have hsz := Ty.size_at hx
   have hb := Ty.cnt_bd (.mk k' s' n' ks') (most - m) (by omega)
   refine Zd (Za 34 V V V (Zf V V (Za 35 V V V (Zs V Xa V (Za 36 V V V (Yg (i := 0) V Xc V V V (Za 37 V V V (Zf V V (Za 38 V V V (Zz V te_22 V (.seq _ _) V V (by assumption) ?_))))))))))
   refine Za 39 V V V (Zn (cs' := [_, _, _, _]) V Ye V V V (Za 40 V V V (Zf V V (Za 41 V V V (Zf V V (Za 42 V V V (op_sub V V V (Xo _ (by omega)) ?_)))))))
   refine Za 43 V V V (Yd (xs := [.tmp 39, .tmp 42]) V V (ih (.mk k' s' n' ks') (most - m) (by omega) (by omega) (by omega)) by1 ?_)
   refine Za 44 V V V (Yp V V V (Xo _ (by omega)) ?_)
   refine Za 5 V V V (Ze V V (Xg (Yq (Zb (Zd (Za 32 V V V (Zf V V (Za 33 V V V (Yp V V V (Xo _ (by omega)) ?_)))))))))
   refine Za 6 V V V (Ze V V (Xg (go_lp ?_)))
   refine ⟨(i + 1, m + Ty.cnt (.mk k' s' n' ks') (most - m)), ⟨by omega, by omega, by omega, ?_⟩, by simp; omega, by4, by3⟩
   rw [← hc, drop_at hx, Ty.cnts, if_pos g31.2]
  exact Zq V (Zh (Zd (Za 21 V V V (Zf V V (Za 4 V V V (Ze V V (Xg (Zb (Zx (Zv V V (Xi _) by3 ⟨by rw [Ty.cnt_var (by simpa [Ty.kind, Ty.kids, Ty.num, List.length_pos_iff] using g20)], V⟩))))))))))
theorem Small_c (t : Ty) (most : Int) (h1 : 0 ≤ most) (h2 : most ≤ 100000) : BCall Tryz.prog 15 [.agg t.cells, .val (.int .i64 most)] (t.small most = true) := by
 obtain ⟨k, s, n, ks⟩ := t
 have hb := Ty.cnt_bd (.mk k s n ks) (most + 1) (by omega)
 refine Zo Tryz.func15 V (by kernel_rfl) V (Xk V) ?_
 refine Ya (Zh (Zd (Za 2 V V V (op_boxe (cs' := [_, _, _, _]) V V V V ?_)))); intro b2
 refine Za 4 V V V (Ze V V (Xg (Zb (Zh (Zd (Za 5 V V V (Zt (cs' := [_, _, _, _]) (i := 0) V Ye V V V V (Za 6 V V V (Zf V V (Za 7 V V V (Yp V V V (Xo _ (by omega)) ?_)))))))))))
 refine Za 8 V V V (Yd (xs := [.tmp 5, .tmp 7]) V V (count_c _ (.mk k s n ks) (most + 1) (Nat.le_refl _) (by omega) (by omega)) by1 ?_)
 refine Za 9 V V V (Zf V V (Za 10 V V V (op_leq V V V ?_))); intro c10 h10
 exact Za 4 V V V (Ze V V (Xg (Zb (Zx (Zv V V (Xi _) by3 ⟨⟨_, h10.trans (by simp [Ty.small]), V⟩, V⟩)))))
end Go.Proofs.YteepjjgooplljaaGreat
