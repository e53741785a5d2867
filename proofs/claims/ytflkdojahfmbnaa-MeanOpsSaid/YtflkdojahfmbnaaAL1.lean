/- A logic of trees over the model's memory, part 1: abstract values, eternal cells, resources, and the rules of code. Nothing of a program is in it. -/
import Derived.WalkKit
import Derived.Lib.Hide
import Derived.Maps.AppendAt
import Derived.Laws.AppendOwnNone
import Derived.TacticsIn
import Derived.OrdersIn
import Derived.RangeFuncFrom
import Derived.RangeFuncLeaves
namespace Go.Proofs.Ytflkdojahfmbnaa
open Go.RowKit
/-- cells that never turn again -/
abbrev EH := Nat → Nat → Option Value
def Ext (F F' : EH) : Prop := ∀ b i x, F b i = some x → F' b i = some x
theorem Ext.refl (F : EH) : Ext F F := fun _ _ _ h => h
theorem Ext.trans {F G H : EH} (h : Ext F G) (k : Ext G H) : Ext F H := fun b i x e => k b i x (h b i x e)
def Lies (F : EH) (b off : Nat) (vs : List Value) : Prop := ∀ j x, vs[j]? = some x → F b (off + j) = some x
theorem Lies.mono {F F' : EH} (h : Ext F F') {b off : Nat} {vs : List Value} (k : Lies F b off vs) : Lies F' b off vs := fun j x e => h _ _ _ (k j x e)
/-- values as trees -/
inductive AV where
  | val (v : Value)
  | seq (m : Nat) (es : List (List AV))
  | own (u : Value) (m : Nat) (es : List (List AV))
  | agg (cs : List AV)
  | tup (vs : List AV)
  | ptr (b off : Nat)
  | cptr (cs : List AV)
  | arr (b off n cap : Nat)
  | clo (fn : Fn) (first capt : List AV)
def Ones (vs : List Value) : Prop := ∀ v ∈ vs, v.oneCell' = true
mutual
inductive Rel (F : EH) : AV → Value → Prop
  | val (v : Value) : Rel F (.val v) v
  | agg {cs : List AV} {vs : List Value} (h : Rels F cs vs) (h1 : Ones vs) : Rel F (.agg cs) (.agg vs.toArray)
  | tup {cs : List AV} {vs : List Value} (h : Rels F cs vs) : Rel F (.tup cs) (.tuple vs.toArray)
  | ptr (b off : Nat) : Rel F (.ptr b off) (.pointer (some ⟨b, off, none⟩))
  | cptr {cs : List AV} {vs : List Value} (b off : Nat) (hl : Lies F b off vs) (h : Rels F cs vs) (h1 : Ones vs) : Rel F (.cptr cs) (.pointer (some ⟨b, off, none⟩))
  | arr (b off n cap : Nat) (hc : n ≤ cap) : Rel F (.arr b off n cap) (.slice (some ⟨b, off, none⟩) n cap)
  | seq0 (m : Nat) (ao : Option Addr) (cap : Nat) (h : ao = none → cap = 0) : Rel F (.seq m []) (.slice ao 0 cap)
  | seq {m : Nat} {es : List (List AV)} {vs : List Value} (b off cap : Nat) (hm : ∀ e ∈ es, e.length = m) (hn : es.length ≤ maxLen) (hl : Lies F b off vs) (h : Rels F es.flatten vs) (h1 : Ones vs) (hc : es.length ≤ cap) : Rel F (.seq m es) (.slice (some ⟨b, off, none⟩) es.length cap)
  | own (u : Value) {m : Nat} {es : List (List AV)} (h : Rel F (.seq m es) u) : Rel F (.own u m es) u
  | clo (fn : Fn) {fs cs : List AV} {vf vc : List Value} (hf : Rels F fs vf) (hc : Rels F cs vc) : Rel F (.clo fn fs cs) (.func fn vf.toArray vc.toArray)
inductive Rels (F : EH) : List AV → List Value → Prop
  | nil : Rels F [] []
  | cons {a : AV} {v : Value} {as : List AV} {vs : List Value} (h : Rel F a v) (hs : Rels F as vs) : Rels F (a :: as) (v :: vs)
end
mutual
theorem Rel.mono {F F' : EH} (hF : Ext F F') : ∀ {a : AV} {v : Value}, Rel F a v → Rel F' a v
  | _, _, .val v => .val v
  | _, _, .agg h h1 => .agg (Rels.mono hF h) h1
  | _, _, .tup h => .tup (Rels.mono hF h)
  | _, _, .ptr b off => .ptr b off
  | _, _, .cptr b off hl h h1 => .cptr b off (hl.mono hF) (Rels.mono hF h) h1
  | _, _, .arr b off n cap hc => .arr b off n cap hc
  | _, _, .seq0 m ao cap h => .seq0 m ao cap h
  | _, _, .seq b off cap hm hn hl h h1 hc => .seq b off cap hm hn (hl.mono hF) (Rels.mono hF h) h1 hc
  | _, _, .own u h => .own u (Rel.mono hF h)
  | _, _, .clo fn hf hc => .clo fn (Rels.mono hF hf) (Rels.mono hF hc)
theorem Rels.mono {F F' : EH} (hF : Ext F F') : ∀ {a : List AV} {v : List Value}, Rels F a v → Rels F' a v
  | _, _, .nil => .nil
  | _, _, .cons h hs => .cons (Rel.mono hF h) (Rels.mono hF hs)
end
theorem Rels.len {F : EH} : ∀ {as : List AV} {vs : List Value}, Rels F as vs → as.length = vs.length
  | _, _, .nil => rfl
  | _, _, .cons _ hs => by simp [Rels.len hs]
theorem Rels.app {F : EH} : ∀ {as : List AV} {vs : List Value} {bs : List AV} {us : List Value}, Rels F as vs → Rels F bs us → Rels F (as ++ bs) (vs ++ us)
  | _, _, _, _, .nil, k => k
  | _, _, _, _, .cons h hs, k => .cons h (Rels.app hs k)
theorem Rels.split {F : EH} : ∀ {as bs : List AV} {ws : List Value}, Rels F (as ++ bs) ws → ∃ vs us, ws = vs ++ us ∧ Rels F as vs ∧ Rels F bs us
  | [], _, ws, h => ⟨[], ws, rfl, .nil, h⟩
  | _ :: _, _, _, .cons h hs => by
    obtain ⟨vs, us, rfl, h1, h2⟩ := Rels.split hs
    exact ⟨_ :: vs, us, rfl, .cons h h1, h2⟩
theorem Rels.get {F : EH} : ∀ {as : List AV} {vs : List Value}, Rels F as vs → ∀ {i : Nat} {a : AV}, as[i]? = some a → ∃ v, vs[i]? = some v ∧ Rel F a v
  | _, _, .nil, i, a, h => by simp at h
  | _, _, .cons (v := v) h hs, 0, a, e => by simp at e; subst e; exact ⟨v, by simp, h⟩
  | _, _, .cons h hs, i + 1, a, e => by
    simp at e
    obtain ⟨v, h1, h2⟩ := Rels.get hs e
    exact ⟨v, by simpa using h1, h2⟩
theorem Rels.drop {F : EH} {as : List AV} {vs : List Value} (h : Rels F as vs) (n : Nat) : Rels F (as.drop n) (vs.drop n) := by
  induction n generalizing as vs with
  | zero => simpa using h
  | succ n ih =>
    cases h with
    | nil => simpa using Rels.nil
    | cons h hs => simpa using ih hs
theorem Rels.take {F : EH} {as : List AV} {vs : List Value} (h : Rels F as vs) (n : Nat) : Rels F (as.take n) (vs.take n) := by
  induction n generalizing as vs with
  | zero => simpa using Rels.nil
  | succ n ih =>
    cases h with
    | nil => simpa using Rels.nil
    | cons h hs => simpa using Rels.cons h (ih hs)
theorem Rels.set {F : EH} {as : List AV} {vs : List Value} (h : Rels F as vs) (i : Nat) {a : AV} {v : Value} (k : Rel F a v) : Rels F (as.set i a) (vs.set i v) := by
  induction i generalizing as vs with
  | zero => cases h with
    | nil => exact .nil
    | cons h hs => exact .cons k hs
  | succ i ih => cases h with
    | nil => exact .nil
    | cons h hs => exact .cons h (ih hs)
/-- what a call may write: a block of cells, or a slice that may grow -/
inductive Res where
  | loc (b : Nat) (cs : List AV)
  | own (e : TypeId) (m : Nat) (u : Value)
  | objp (b : Nat) (p : EH → Obj → Prop)
  | row (e : TypeId) (m : Nat) (u : Value) (es : List (List AV))
  | fact (p : EH → Prop)
/-- a block that holds one known object that is no cells -/
abbrev Res.obj (b : Nat) (o : Obj) : Res := .objp b (fun _ o' => o' = o)
def Res.blk : Res → Option Nat
  | .loc b _ => some b
  | .own _ _ u => u.ownBlock
  | .objp b _ => some b
  | .row _ _ u _ => u.ownBlock
  | .fact _ => none
def Res.Ok (B : Nat) (F : EH) (w : World) : Res → Prop
  | .loc b cs => B ≤ b ∧ (∀ i, F b i = none) ∧ ∃ vs T, w.heap[b]? = some (.cells vs.toArray T (0, 0)) ∧ Rels F cs vs ∧ Ones vs
  | .own e m u => ∃ n xs, w.ownsRow B e m u n xs ∧ ∀ g i, u.ownBlock = some g → n * m ≤ i → F g i = none
  | .objp b p => B ≤ b ∧ (∀ i, F b i = none) ∧ ∃ o, w.heap[b]? = some o ∧ o.isCells = false ∧ ∀ F', Ext F F' → p F' o
  | .row e m u es => ∃ xs, w.ownsRow B e m u es.length xs ∧ (∀ g i, u.ownBlock = some g → F g i = none) ∧ Rels F es.flatten xs ∧ Ones xs ∧ ∀ x ∈ es, x.length = m
  | .fact p => ∀ F', Ext F F' → p F'
def Far (r r' : Res) : Prop := r.blk = none ∨ r.blk ≠ r'.blk
theorem Far.symm {r r' : Res} (h : Far r r') : Far r' r := by
  unfold Far at *
  rcases h with h | h
  · cases k : r'.blk with
    | none => exact Or.inl rfl
    | some b => right; rw [h]; simp
  · exact Or.inr (fun e => h e.symm)
abbrev Mem := List Res
structure Inv (B : Nat) (F : EH) (M : Mem) (w : World) : Prop where
  base : B ≤ w.heap.size
  fix : ∀ b i x, F b i = some x → w.cell? ⟨b, i, none⟩ = some x
  ok : ∀ r ∈ M, r.Ok B F w
  far : M.Pairwise Far
theorem cell_size {w : World} {b i : Nat} {x : Value} (h : w.cell? ⟨b, i, none⟩ = some x) : b < w.heap.size := by
  unfold World.cell? at h
  rcases Nat.lt_or_ge b w.heap.size with k | k
  · exact k
  · rw [Array.getElem?_eq_none (by exact k)] at h; simp at h
theorem Inv.dom {B : Nat} {F : EH} {M : Mem} {w : World} (h : Inv B F M w) {b i : Nat} (hb : w.heap.size ≤ b) : F b i = none := by
  cases k : F b i with
  | none => rfl
  | some x => have := cell_size (h.fix b i x k); omega
theorem Res.Ok.lt {B : Nat} {F : EH} {w : World} {r : Res} (h : r.Ok B F w) {b : Nat} (hb : r.blk = some b) : b < w.heap.size := by
  cases r with
  | loc b' cs =>
    obtain ⟨_, _, vs, T, h3, _⟩ := h
    simp [Res.blk] at hb; subst hb
    rcases Nat.lt_or_ge b' w.heap.size with k | k
    · exact k
    · rw [Array.getElem?_eq_none k] at h3; simp at h3
  | own e m u =>
    obtain ⟨n, xs, h1, _⟩ := h
    rcases h1.2 with ⟨rfl, _⟩ | ⟨g, cap, cur, rfl, _, h3, _⟩
    · simp [Res.blk, Value.ownBlock] at hb
    · simp [Res.blk, Value.ownBlock] at hb; subst hb
      rcases Nat.lt_or_ge g w.heap.size with k | k
      · exact k
      · rw [Array.getElem?_eq_none k] at h3; simp at h3
  | objp b' p =>
    simp [Res.blk] at hb; subst hb
    rcases Nat.lt_or_ge b' w.heap.size with k | k
    · exact k
    · obtain ⟨_, _, o, h3, _⟩ := h
      rw [Array.getElem?_eq_none k] at h3; simp at h3
  | row e m u es =>
    obtain ⟨xs, h1, _⟩ := h
    rcases h1.2 with ⟨rfl, _⟩ | ⟨g, cap, cur, rfl, _, h3, _⟩
    · simp [Res.blk, Value.ownBlock] at hb
    · simp [Res.blk, Value.ownBlock] at hb; subst hb
      rcases Nat.lt_or_ge g w.heap.size with k | k
      · exact k
      · rw [Array.getElem?_eq_none k] at h3; simp at h3
  | fact p => simp [Res.blk] at hb
theorem Res.Ok.ge {B : Nat} {F : EH} {w : World} {r : Res} (h : r.Ok B F w) {b : Nat} (hb : r.blk = some b) : B ≤ b := by
  cases r with
  | loc b' cs => simp [Res.blk] at hb; subst hb; exact h.1
  | own e m u =>
    obtain ⟨n, xs, h1, _⟩ := h
    rcases h1.2 with ⟨rfl, _⟩ | ⟨g, cap, cur, rfl, h2, _⟩
    · simp [Res.blk, Value.ownBlock] at hb
    · simp [Res.blk, Value.ownBlock] at hb; subst hb; exact h2
  | objp b' p => simp [Res.blk] at hb; subst hb; exact h.1
  | row e m u es =>
    obtain ⟨xs, h1, _⟩ := h
    rcases h1.2 with ⟨rfl, _⟩ | ⟨g, cap, cur, rfl, h2, _⟩
    · simp [Res.blk, Value.ownBlock] at hb
    · simp [Res.blk, Value.ownBlock] at hb; subst hb; exact h2
  | fact p => simp [Res.blk] at hb
/-- a resource whose block stays is as it was -/
theorem Res.Ok.stay {B : Nat} {F F' : EH} {w w' : World} {r : Res} (h : r.Ok B F w) (hF : Ext F F') (hb : ∀ b, r.blk = some b → w'.heap[b]? = w.heap[b]? ∧ ∀ i, F' b i = F b i) : r.Ok B F' w' := by
  cases r with
  | loc b cs =>
    obtain ⟨h1, h2, vs, T, h3, h4, h5⟩ := h
    obtain ⟨k1, k2⟩ := hb b rfl
    exact ⟨h1, fun i => by rw [k2 i, h2 i], vs, T, by rw [k1, h3], h4.mono hF, h5⟩
  | own e m u =>
    obtain ⟨n, xs, h1, h2⟩ := h
    refine ⟨n, xs, ⟨h1.1, ?_⟩, fun g i hg hi => ?_⟩
    · rcases h1.2 with h | ⟨g, cap, cur, q1, q2, q3, q4⟩
      · exact Or.inl h
      · refine Or.inr ⟨g, cap, cur, q1, q2, ?_, q4⟩
        rw [(hb g (by rw [q1]; rfl)).1]; exact q3
    · rw [(hb g hg).2 i]; exact h2 g i hg hi
  | objp b p =>
    obtain ⟨h1, h2, o, h3, h4, h5⟩ := h
    obtain ⟨k1, k2⟩ := hb b rfl
    exact ⟨h1, fun i => by rw [k2 i, h2 i], o, by rw [k1, h3], h4, fun F'' e => h5 F'' (hF.trans e)⟩
  | row e m u es =>
    obtain ⟨xs, h1, h2, h3, h4, h5⟩ := h
    refine ⟨xs, ⟨h1.1, ?_⟩, fun g i hg => ?_, h3.mono hF, h4, h5⟩
    · rcases h1.2 with h | ⟨g, cap, cur, q1, q2, q3, q4⟩
      · exact Or.inl h
      · refine Or.inr ⟨g, cap, cur, q1, q2, ?_, q4⟩
        rw [(hb g (by rw [q1]; rfl)).1]; exact q3
    · rw [(hb g hg).2 i]; exact h2 g i hg
  | fact p => exact fun F'' e => h F'' (hF.trans e)
theorem Inv.sub {B : Nat} {F : EH} {M M' : Mem} {w : World} (h : Inv B F M w) (hs : M'.Sublist M) : Inv B F M' w :=
  ⟨h.base, h.fix, fun r hr => h.ok r (hs.subset hr), h.far.sublist hs⟩
theorem Inv.perm {B : Nat} {F : EH} {M M' : Mem} {w : World} (h : Inv B F M w) (hp : M.Perm M') : Inv B F M' w :=
  ⟨h.base, h.fix, fun r hr => h.ok r (hp.symm.subset hr), hp.pairwise h.far (fun h => h.symm)⟩
theorem Inv.drew {B : Nat} {F : EH} {M : Mem} {w : World} (h : Inv B F M w) : Inv B F M w.drew :=
  ⟨h.base, h.fix, fun r hr => (h.ok r hr).stay (Ext.refl F) (fun _ _ => ⟨rfl, fun _ => rfl⟩), h.far⟩
/-- an object's block may turn; its resource is then another, or none -/
theorem Inv.objPut {B : Nat} {F : EH} {M : Mem} {w : World} {b : Nat} {p : EH → Obj → Prop} (h : Inv B F (.objp b p :: M) w) (o' : Obj) : Inv B F M (w.putObj b o') ∧ Below B w (w.putObj b o') ∧ (o'.isCells = false → ∀ p' : EH → Obj → Prop, (∀ F', Ext F F' → p' F' o') → Inv B F (.objp b p' :: M) (w.putObj b o')) := by
  obtain ⟨h1, h2, o, h3, h4, _⟩ := h.ok _ (List.mem_cons_self)
  have hlt : b < w.heap.size := (h.ok _ (List.mem_cons_self)).lt (r := .objp b p) rfl
  have hfar := h.far
  rw [List.pairwise_cons] at hfar
  have hinv : Inv B F M (w.putObj b o') := by
    refine ⟨by simpa using h.base, fun b' i x e => ?_, fun r hr => ?_, hfar.2⟩
    · have hne : b' ≠ b := by
        intro q; subst q; rw [h2 i] at e; simp at e
      have := h.fix b' i x e
      unfold World.cell? at this ⊢
      rw [World.putObj_heap_other (by exact hne)]
      exact this
    · refine (h.ok r (List.mem_cons_of_mem _ hr)).stay (Ext.refl F) (fun b' hb' => ⟨World.putObj_heap_other ?_, fun _ => rfl⟩)
      intro q; subst q
      rcases hfar.1 r hr with k | k
      · simp [Res.blk] at k
      · exact k hb'.symm
  refine ⟨hinv, ⟨rfl, rfl, rfl, by simp, fun k hk => World.putObj_heap_other (by omega)⟩, fun ho p' hp' => ⟨hinv.base, hinv.fix, fun r hr => ?_, ?_⟩⟩
  · rcases List.mem_cons.1 hr with rfl | hr
    · exact ⟨h1, h2, o', World.putObj_heap_same hlt, ho, hp'⟩
    · exact hinv.ok r hr
  · have := h.far
    rw [List.pairwise_cons] at this ⊢
    exact ⟨fun r hr => this.1 r hr, this.2⟩
/-- known slots -/
abbrev Sl := List (Nat × AV)
def Slots (n : Nat) (F : EH) (al : Sl) (tmps : Array Value) : Prop := tmps.size = n ∧ ∀ t v, al.lookup t = some v → t < n ∧ Rel F v (tmps.getD t undef)
def Sl.put (al : Sl) (d : Option Tmp) (v : AV) : Sl := match d with | some d => (d, v) :: al | none => al
def Sl.ev (al : Sl) : Operand → Option AV
  | .tmp t => al.lookup t
  | .const v => some (.val v)
  | .global g => some (.val (.pointer (some ⟨g, 0, none⟩)))
  | .func f => some (.clo (.func f) [] [])
theorem Slots.mono {n : Nat} {F F' : EH} {al : Sl} {tmps : Array Value} (h : Slots n F al tmps) (hF : Ext F F') : Slots n F' al tmps :=
  ⟨h.1, fun t v e => ⟨(h.2 t v e).1, (h.2 t v e).2.mono hF⟩⟩
theorem Slots.ev {n : Nat} {F : EH} {al : Sl} {a : Act} (h : Slots n F al a.tmps) {x : Operand} {v : AV} (e : al.ev x = some v) : Rel F v (a.eval x) := by
  cases x with
  | tmp t => exact (h.2 t v e).2
  | const u => simp [Sl.ev] at e; subst e; exact .val u
  | global g => simp [Sl.ev] at e; subst e; exact .val _
  | func f => simp [Sl.ev] at e; subst e; exact .clo _ .nil .nil
theorem Slots.put {n : Nat} {F : EH} {al : Sl} {a : Act} (h : Slots n F al a.tmps) {d : Option Tmp} {v : AV} {u : Value} (hd : d.all (· < n) = true) (k : Rel F v u) : Slots n F (al.put d v) (a.put d u).tmps := by
  cases d with
  | none => exact h
  | some d =>
    simp at hd
    refine ⟨by simp [Act.put, h.1], fun t v' e => ?_⟩
    simp only [Sl.put, List.lookup_cons] at e
    by_cases q : t = d
    · subst q
      simp at e
      subst e
      refine ⟨hd, ?_⟩
      have : t < a.tmps.size := by rw [h.1]; exact hd
      simpa [Act.put, Array.getD, this] using k
    · have : (t == d) = false := by simpa using q
      rw [this] at e
      refine ⟨(h.2 t v' e).1, ?_⟩
      have hh := (h.2 t v' e).2
      have e2 : (a.put (some d) u).tmps.getD t undef = a.tmps.getD t undef := by
        simp only [Act.put, Array.getD_eq_getD_getElem?, Array.getElem?_setIfInBounds]
        rw [if_neg (fun e => q e.symm)]
      rw [e2]; exact hh
/-- fewer slots are known -/
theorem Slots.less {n : Nat} {F : EH} {al al' : Sl} {tmps : Array Value} (h : Slots n F al tmps) (hs : ∀ t v, al'.lookup t = some v → al.lookup t = some v) : Slots n F al' tmps :=
  ⟨h.1, fun t v e => h.2 t v (hs t v e)⟩
/-- what a step leaves -/
def Post (n B : Nat) (F : EH) (Mf : Mem) (w : World) (ds : List Deferred) (Q : Sl → Mem → Prop) (a' : Act) (w' : World) : Prop :=
  ∃ F' al' M', Q al' M' ∧ Ext F F' ∧ Inv B F' (M' ++ Mf) w' ∧ Slots n F' al' a'.tmps ∧ a'.defers = ds ∧ Below B w w'
theorem Post.mono {n B : Nat} {F : EH} {Mf : Mem} {w : World} {ds : List Deferred} {Q Q' : Sl → Mem → Prop} (hq : ∀ al M, Q al M → Q' al M) {a' : Act} {w' : World} (h : Post n B F Mf w ds Q a' w') : Post n B F Mf w ds Q' a' w' := by
  obtain ⟨F', al', M', h1, h2⟩ := h
  exact ⟨F', al', M', hq _ _ h1, h2⟩
theorem Post.next {n B : Nat} {F F' : EH} {Mf : Mem} {w w' : World} {ds : List Deferred} {Q : Sl → Mem → Prop} {a'' : Act} {w'' : World} (hF : Ext F F') (hb : Below B w w') (h : Post n B F' Mf w' ds Q a'' w'') : Post n B F Mf w ds Q a'' w'' := by
  obtain ⟨F2, al', M', h1, h2, h3, h4, h5, h6⟩ := h
  exact ⟨F2, al', M', h1, hF.trans h2, h3, h4, h5, hb.trans h6⟩
/-- all is let by; ro: the round that the frame runs, if it is one -/
abbrev RF (ro : Option Nat) : Fence := { Fence.wide with round := ro }
theorem callsIn_RF {ro : Option Nat} {n : Nat} {P : Program} {f : FuncId} {args : Array Value} {w : World} {R : Ending → World → Prop} : CallsIn (RF ro) n P f args w R ↔ Calls P f args w R := callsIn_wide
/-- a block of a range's deferred calls: none were deferred -/
abbrev spent (D : Nat) : Res := .obj D (.deferred (some []))
abbrev mark (D : Nat) : Deferred := { target := .collected D, args := #[] }
/-- what a piece of code leaves: ranges over functions may have left marks -/
def PostD (n B : Nat) (F : EH) (Mf : Mem) (w : World) (ds : List Deferred) (Q : Sl → Mem → Prop) (a' : Act) (w' : World) : Prop :=
  ∃ Ds : List Nat, Post n B F (Ds.map spent ++ Mf) w (Ds.map mark ++ ds) Q a' w'
theorem Post.d {n B : Nat} {F : EH} {Mf : Mem} {w : World} {ds : List Deferred} {Q : Sl → Mem → Prop} {a' : Act} {w' : World} (h : Post n B F Mf w ds Q a' w') : PostD n B F Mf w ds Q a' w' := ⟨[], h⟩
theorem PostD.mono {n B : Nat} {F : EH} {Mf : Mem} {w : World} {ds : List Deferred} {Q Q' : Sl → Mem → Prop} (hq : ∀ al M, Q al M → Q' al M) {a' : Act} {w' : World} (h : PostD n B F Mf w ds Q a' w') : PostD n B F Mf w ds Q' a' w' := by
  obtain ⟨Ds, h⟩ := h
  exact ⟨Ds, h.mono hq⟩
theorem PostD.next {n B : Nat} {F F' : EH} {Mf : Mem} {w w' : World} {ds : List Deferred} {Q : Sl → Mem → Prop} {a'' : Act} {w'' : World} (hF : Ext F F') (hb : Below B w w') {Ds : List Nat} (h : PostD n B F' (Ds.map spent ++ Mf) w' (Ds.map mark ++ ds) Q a'' w'') : PostD n B F Mf w ds Q a'' w'' := by
  obtain ⟨Ds2, h⟩ := h
  refine ⟨Ds2 ++ Ds, ?_⟩
  rw [List.map_append, List.map_append, List.append_assoc, List.append_assoc]
  exact h.next hF hb
/-- one operation: the value that it yields, and the memory behind it -/
def OpT (P : Program) (o : Oper) (al : Sl) (M : Mem) (K : AV → Mem → Prop) : Prop :=
  ∀ (n B : Nat) (F : EH) (Mf : Mem) (a : Act) (w : World), Inv B F (M ++ Mf) w → Slots n F al a.tmps → ∀ ro : Option Nat,
    o.wpIn (RF ro) 0 P a w (fun a' w' => ∃ u v M' F', a' = a.put o.dst u ∧ K v M' ∧ Rel F' v u ∧ Ext F F' ∧ Inv B F' (M' ++ Mf) w' ∧ Below B w w') (fun _ _ _ => False)
/-- a row of operations -/
def AOps (P : Program) (n : Nat) (ops : Array Oper) (Q : Sl → Mem → Prop) (l : List Oper) (al : Sl) (M : Mem) : Prop :=
  ∀ (B : Nat) (F : EH) (Mf : Mem) (a : Act) (w : World), Inv B F (M ++ Mf) w → Slots n F al a.tmps → ∀ ro : Option Nat,
    wpListIn (RF ro) 0 P ops (fun e a' w' => e = .normal ∧ Post n B F Mf w a.defers Q a' w') l a w
def ACode (ro : Option Nat) (P : Program) (n : Nat) (c : Code) (Q : Exit → Sl → Mem → Prop) (al : Sl) (M : Mem) : Prop :=
  ∀ (B : Nat) (F : EH) (Mf : Mem) (a : Act) (w : World), Inv B F (M ++ Mf) w → Slots n F al a.tmps →
    c.wpIn (RF ro) 0 P (fun e a' w' => PostD n B F Mf w a.defers (Q e) a' w') a w
/-- an operation that runs, and yields a value -/
theorem not_defer {P : Program} {o : Oper} {ρ : Operand → Value} {w w' : World} {nx : Next} (e : (execOp ρ o).run P w = .ok nx w') (h : ∀ d, nx ≠ .defer d) : ∀ c, o.op ≠ .defer c := by
  intro c hc
  simp only [execOp, hc, Sem.run_bind] at e
  generalize (resolve ρ c o.type).run P w = r at e
  cases r with
  | ok d w1 => simp at e; exact h d e.1.symm
  | halt x w1 => simp at e
theorem wpR_value {ro : Option Nat} {P : Program} {o : Oper} {a : Act} {w w' : World} {u : Value} {K : Act → World → Prop} {Q : Exit → Act → World → Prop} (e : (execOp a.eval o).run P w = .ok (.value u) w') (h : K (a.put o.dst u) w') : o.wpIn (RF ro) 0 P a w K Q := by
  refine ⟨fun _ _ => trivial, ?_⟩
  rw [Oper.semAt_eq _ _ _ (not_defer e (by simp)), e]
  exact h
theorem wpR_skip {ro : Option Nat} {P : Program} {o : Oper} {a : Act} {w w' : World} {K : Act → World → Prop} {Q : Exit → Act → World → Prop} (e : (execOp a.eval o).run P w = .ok .skip w') (h : K (a.put o.dst undef) w') : o.wpIn (RF ro) 0 P a w K Q := by
  refine ⟨fun _ _ => trivial, ?_⟩
  rw [Oper.semAt_eq _ _ _ (not_defer e (by simp)), e]
  exact h
theorem wpR_enter {ro : Option Nat} {P : Program} {o : Oper} {a : Act} {w w' : World} {f : FuncId} {args : Array Value} {K : Act → World → Prop} {Q : Exit → Act → World → Prop} (e : (execOp a.eval o).run P w = .ok (.enter f args) w')
    (h : Calls P f args w' fun e w'' => ∃ v, e = .returned v ∧ K (a.put o.dst v) w'') : o.wpIn (RF ro) 0 P a w K Q := by
  refine ⟨fun _ _ => trivial, ?_⟩
  rw [Oper.semAt_eq _ _ _ (not_defer e (by simp)), e]
  refine ⟨fun q => by simp [Fence.wide] at q, (callsIn_RF.2 h).mono ?_⟩
  rintro e w'' ⟨v, rfl, hk⟩
  exact hk
theorem wp_exits {ro : Option Nat} {P : Program} {o : Oper} {a : Act} {w : World} {K : Act → World → Prop} {Q : Exit → Act → World → Prop} (h : o.wpIn (RF ro) 0 P a w K (fun _ _ _ => False)) : o.wpIn (RF ro) 0 P a w K Q := by
  unfold Oper.wpIn at *
  refine ⟨h.1, ?_⟩
  have h := h.2
  generalize (o.semAt (RF ro).round a.eval).run P w = r at *
  cases r with
  | ok n w' =>
    cases n <;> simp only [Oper.uponIn] at h ⊢ <;> first
      | exact h
      | exact ⟨h.1, CallsIn.mono h.2 (fun e w'' he => by
          cases e with
          | returned v => exact he
          | panicked c => exact he.elim
          | outgrown => obtain ⟨_, _, hf⟩ := he; exact hf.elim)⟩
      | exact ⟨h.1, RoundIn.mono h.2 (fun e w'' he => by
          cases e with
          | returned v => exact he
          | panicked c => exact he.elim
          | outgrown => obtain ⟨_, _, hf⟩ := he; exact hf.elim)⟩
  | halt x w' => cases x <;> simp only [Oper.uponIn] at h
/-- the exits that are asked for may be others, if none but the normal one is taken -/
theorem wpR_norm {ro : Option Nat} {P : Program} {ops : Array Oper} {Q Q' : Exit → Act → World → Prop} (hn : ∀ e a w, Q e a w → e = .normal) (hq : ∀ a w, Q .normal a w → Q' .normal a w) : ∀ (l : List Oper) (a : Act) (w : World), wpListIn (RF ro) 0 P ops Q l a w → wpListIn (RF ro) 0 P ops Q' l a w
  | [], a, w, h => hq a w h
  | o :: l, a, w, h => by
    unfold wpListIn at h ⊢
    split
    · rename_i hw
      rw [if_pos hw] at h
      have h2 : o.wpIn (RF ro) 0 P a w (wpListIn (RF ro) 0 P ops Q' l) Q := Oper.wpIn_mono (fun a w h => wpR_norm hn hq l a w h) h
      have h3 : o.wpIn (RF ro) 0 P a w (wpListIn (RF ro) 0 P ops Q' l) (fun _ _ _ => False) := by
        unfold Oper.wpIn at *
        refine ⟨h2.1, ?_⟩
        have h2 := h2.2
        generalize (o.semAt (RF ro).round a.eval).run P w = r at *
        cases r with
        | ok nx w2 =>
          cases nx <;> simp only [Oper.uponIn] at h2 ⊢ <;> first
            | exact h2
            | exact ⟨h2.1, CallsIn.mono h2.2 (fun e w'' he => by
                cases e with
                | returned v => exact he
                | panicked c => exact absurd (hn _ _ _ he) (by simp)
                | outgrown => obtain ⟨_, _, hf⟩ := he; exact absurd (hn _ _ _ hf) (by simp))⟩
            | exact ⟨h2.1, RoundIn.mono h2.2 (fun e w'' he => by
                cases e with
                | returned v => exact he
                | panicked c => exact absurd (hn _ _ _ he) (by simp)
                | outgrown => obtain ⟨_, _, hf⟩ := he; exact absurd (hn _ _ _ hf) (by simp))⟩
        | halt x w2 => cases x <;> simp only [Oper.uponIn] at h2 ⊢ <;> first
          | exact h2
          | exact absurd (hn _ _ _ h2) (by simp)
      exact wp_exits h3
    · rename_i hw
      rw [if_neg hw] at h
      exact ⟨h.1, wpR_norm hn hq l _ _ h.2⟩
theorem put_defers (a : Act) (d : Option Tmp) (u : Value) : (a.put d u).defers = a.defers := by cases d <;> rfl
theorem AOps.nil {P : Program} {n : Nat} {ops : Array Oper} {Q : Sl → Mem → Prop} {al : Sl} {M : Mem} (h : Q al M) : AOps P n ops Q [] al M := by
  intro B F Mf a w hi hs ro
  exact wpListIn_nil ⟨rfl, F, al, M, h, Ext.refl F, hi, hs, rfl, Below.refl _ _⟩
theorem AOps.step {P : Program} {n : Nat} {ops : Array Oper} {Q : Sl → Mem → Prop} {al : Sl} {M : Mem} {o : Oper} {rest : List Oper} (hg : o.guard = none) (hd : o.dst.all (· < n) = true)
    (h : OpT P o al M (fun v M' => AOps P n ops Q rest (al.put o.dst v) M')) : AOps P n ops Q (o :: rest) al M := by
  intro B F Mf a w hi hs ro
  refine wpListIn_plain hg fun K hK => ?_
  refine wp_exits (Oper.wpIn_mono ?_ (h n B F Mf a w hi hs ro))
  rintro a' w' ⟨u, v, M', F', rfl, hk, hr, hF, hi', hb⟩
  refine hK _ _ ?_
  have := hk B F' Mf (a.put o.dst u) w' hi' ((hs.mono hF).put hd hr) ro
  rw [put_defers] at this
  exact wpR_norm (fun e a w h => h.1) (fun a w h => ⟨h.1, h.2.next hF hb⟩) _ _ _ this
/-- an operation that is guarded -/
theorem AOps.guard {P : Program} {n : Nat} {ops : Array Oper} {Q : Sl → Mem → Prop} {al : Sl} {M : Mem} {o : Oper} {rest : List Oper} {j : Nat} {b c : Bool} {t : Tmp} (hg : o.guard = some (j, b)) (hj : (ops[j]?).bind (·.dst) = some t) (hd : o.dst.all (· < n) = true)
    (hc : al.lookup t = some (.val (.bool c)))
    (h1 : c = b → AOps P n ops Q ({ o with guard := none } :: rest) al M) (h2 : c = !b → AOps P n ops Q rest (al.put o.dst (.val undef)) M) : AOps P n ops Q (o :: rest) al M := by
  intro B F Mf a w hi hs ro
  have hr := hs.2 t _ hc
  have hv : a.tmps[t]? = some (.bool c) := by
    have h3 := hr.2
    have h4 : t < a.tmps.size := by rw [hs.1]; exact hr.1
    generalize hx : a.tmps.getD t undef = x at h3
    cases h3
    rw [Array.getElem?_eq_getElem h4]
    simpa [Array.getD, h4] using hx
  have hw : Region.wanted o (yielded ops a.tmps) = (some c == some b) := by
    simp only [Region.wanted, hg, yielded, hj, Option.bind_some, hv]
  by_cases e : c = b
  · have k := h1 e B F Mf a w hi hs ro
    unfold wpListIn at k ⊢
    rw [if_pos (by simp [Region.wanted])] at k
    rw [if_pos (by rw [hw, e]; simp)]
    exact k
  · have e' : c = !b := by cases c <;> cases b <;> simp at e ⊢
    unfold wpListIn
    rw [if_neg (by rw [hw]; simpa using e)]
    exact ⟨fun _ _ => trivial, by have := h2 e' B F Mf (a.put o.dst undef) w hi (hs.put hd (.val _)) ro; rwa [put_defers] at this⟩
/-- its guard was not reached -/
theorem AOps.unguard {P : Program} {n : Nat} {ops : Array Oper} {Q : Sl → Mem → Prop} {al : Sl} {M : Mem} {o : Oper} {rest : List Oper} {j : Nat} {b : Bool} {t : Tmp} (hg : o.guard = some (j, b)) (hj : (ops[j]?).bind (·.dst) = some t) (hd : o.dst.all (· < n) = true)
    (hc : al.lookup t = some (.val undef))
    (h2 : AOps P n ops Q rest (al.put o.dst (.val undef)) M) : AOps P n ops Q (o :: rest) al M := by
  intro B F Mf a w hi hs ro
  have hr := hs.2 t _ hc
  have hv : a.tmps[t]? = some undef := by
    have h3 := hr.2
    have h4 : t < a.tmps.size := by rw [hs.1]; exact hr.1
    generalize hx : a.tmps.getD t undef = x at h3
    cases h3
    rw [Array.getElem?_eq_getElem h4]
    simpa [Array.getD, h4] using hx
  unfold wpListIn
  rw [if_neg (by simp [Region.wanted, hg, yielded, hj, hv, undef])]
  exact ⟨fun _ _ => trivial, by have := h2 B F Mf (a.put o.dst undef) w hi (hs.put hd (.val _)) ro; rwa [put_defers] at this⟩
section code
variable {ro : Option Nat} {P : Program} {n : Nat} {Q : Exit → Sl → Mem → Prop} {al : Sl} {M : Mem}
theorem ACode.mono {c : Code} {Q' : Exit → Sl → Mem → Prop} (h : ACode ro P n c Q al M) (hq : ∀ e al M, Q e al M → Q' e al M) : ACode ro P n c Q' al M := by
  intro B F Mf a w hi hs
  exact Code.wpIn_mono (fun e a w hp => hp.mono (hq e)) (h B F Mf a w hi hs)
theorem ACode.region {id : Nat} {l : List Oper} (h : AOps P n l.toArray (Q .normal) l al M) : ACode ro P n (.region id l.toArray false) Q al M := by
  intro B F Mf a w hi hs
  refine wpIn_region_lit ?_
  exact wpR_norm (fun e a w h => h.1) (fun a w h => h.2.d) _ _ _ (h B F Mf a w hi hs ro)
theorem ACode.skip (h : Q .normal al M) : ACode ro P n .skip Q al M := fun _ F _ _ _ hi hs => wpIn_skip ⟨[], F, al, M, h, Ext.refl F, hi, hs, rfl, Below.refl _ _⟩
theorem ACode.label {l : Nat} (h : Q .normal al M) : ACode ro P n (.label l) Q al M := fun _ F _ _ _ hi hs => wpIn_label ⟨[], F, al, M, h, Ext.refl F, hi, hs, rfl, Below.refl _ _⟩
theorem ACode.exit {id : Nat} (h : Q (.exit id) al M) : ACode ro P n (.exit id) Q al M := fun _ F _ _ _ hi hs => wpIn_exit ⟨[], F, al, M, h, Ext.refl F, hi, hs, rfl, Below.refl _ _⟩
theorem ACode.ret (h : Q .ret al M) : ACode ro P n .ret Q al M := fun _ F _ _ _ hi hs => wpIn_ret ⟨[], F, al, M, h, Ext.refl F, hi, hs, rfl, Below.refl _ _⟩
/-- behind a piece that ended normally goes on the next; other exits go out -/
def Then (K : Sl → Mem → Prop) (Q : Exit → Sl → Mem → Prop) : Exit → Sl → Mem → Prop
  | .normal, al, M => K al M
  | e, al, M => Q e al M
theorem ACode.seq {x y : Code} (h : ACode ro P n x (Then (ACode ro P n y Q) Q) al M) : ACode ro P n (.seq x y) Q al M := by
  intro B F Mf a w hi hs
  refine wpIn_seq (Code.wpIn_mono (fun e a' w' hp => ?_) (h B F Mf a w hi hs))
  cases e with
  | normal =>
    obtain ⟨Ds, F', al', M', h1, h2, h3, h4, h5, h6⟩ := hp
    exact Code.wpIn_mono (fun e a'' w'' hp => PostD.next h2 h6 (by rw [← h5]; exact hp)) (h1 B F' _ a' w' h3 h4)
  | exit id => exact hp
  | goto l => exact hp
  | ret => exact hp
  | panic c => exact hp
  | outgrown => exact hp
theorem ACode.cond {c : Operand} {x y : Code} {b : Bool} (hc : al.ev c = some (.val (.bool b))) (h1 : b = true → ACode ro P n x Q al M) (h2 : b = false → ACode ro P n y Q al M) : ACode ro P n (.cond c x y) Q al M := by
  intro B F Mf a w hi hs
  have hr := hs.ev hc
  generalize hv : a.eval c = v at hr
  cases hr
  refine wpIn_cond hv ?_
  cases b
  · exact h2 rfl B F Mf a w hi hs
  · exact h1 rfl B F Mf a w hi hs
def InBlk (id : Nat) (Q : Exit → Sl → Mem → Prop) : Exit → Sl → Mem → Prop
  | .exit i, al, M => if i = id then Q .normal al M else Q (.exit i) al M
  | e, al, M => Q e al M
theorem ACode.block {id : Nat} {c : Code} (h : ACode ro P n c (InBlk id Q) al M) : ACode ro P n (.block id c) Q al M := by
  intro B F Mf a w hi hs
  refine wpIn_block (Code.wpIn_mono (fun e a' w' hp => ?_) (h B F Mf a w hi hs))
  cases e with
  | exit i =>
    simp only [Exit.inBlock]
    by_cases e : i = id
    · subst e
      rw [if_pos rfl]
      exact hp.mono (fun al M h => by simpa [InBlk] using h)
    · rw [if_neg e]
      exact hp.mono (fun al M h => by simpa [InBlk, e] using h)
  | normal => exact hp
  | goto l => exact hp
  | ret => exact hp
  | panic c => exact hp
  | outgrown => exact hp
/-- a loop: I at its head for a ghost x, whose measure goes down -/
theorem ACode.loop {c : Code} {σ : Type} (I : σ → Sl → Mem → Prop) (μ : σ → Nat) (x0 : σ) (h0 : I x0 al M)
    (h : ∀ x al M, I x al M → ACode ro P n c (Then (fun al' M' => ∃ x', I x' al' M' ∧ μ x' < μ x) Q) al M) : ACode ro P n (.loop c) Q al M := by
  intro B F Mf a w hi hs b k cs hro hbf hrm
  have key : ∀ m x F' Ds al' M' a' w', μ x = m → I x al' M' → Ext F F' → Inv B F' (M' ++ (List.map spent Ds ++ Mf)) w' → Slots n F' al' a'.tmps → a'.defers = Ds.map mark ++ a.defers → Below B w w' →
      ∃ e a2 w2, PostD n B F Mf w a.defers (Q e) a2 w2 ∧ ArrivesIn (Machine.fenced P (RF ro)) P (lone (b.atR a' (.code c :: .inLoop c :: k)) cs w') b k cs e a2 w2 := by
    intro m
    induction m using Nat.strongRecOn with
    | _ m ih =>
      intro x F' Ds al' M' a' w' hm hI hF hi' hs' hd' hb'
      obtain ⟨e, a1, w1, hq, harr⟩ := h x al' M' hI B F' _ a' w' hi' hs' b (.inLoop c :: k) cs hro hbf hrm
      rw [hd'] at hq
      cases e with
      | normal =>
        obtain ⟨D2, F2, al2, M2, ⟨x', hI2, hlt⟩, h2, h3, h4, h5, h6⟩ := hq
        obtain ⟨e2, a2, w2, hq2, harr2⟩ := ih (μ x') (by omega) x' F2 (D2 ++ Ds) al2 M2 a1 w1 rfl hI2 (hF.trans h2) (by rw [List.map_append, List.append_assoc]; exact h3) h4 (by rw [List.map_append, List.append_assoc]; exact h5) (hb'.trans h6)
        exact ⟨e2, a2, w2, hq2, .of_steps (StepsIn.trans harr (.one (fenced_calm hbf hrm rfl) stepR_inLoop)) harr2⟩
      | exit id => exact ⟨_, a1, w1, PostD.next hF hb' hq, .pass (x := .inLoop c) rfl (fun _ _ => .inl (by simp)) harr⟩
      | goto l => exact ⟨_, a1, w1, PostD.next hF hb' hq, .pass (x := .inLoop c) rfl (fun _ _ => .inl (by simp)) harr⟩
      | ret => exact ⟨_, a1, w1, PostD.next hF hb' hq, .pass (x := .inLoop c) rfl (fun _ _ => .inl (by simp)) harr⟩
      | panic ch => exact ⟨_, a1, w1, PostD.next hF hb' hq, .pass (x := .inLoop c) rfl (fun _ _ => .inl (by simp)) harr⟩
      | outgrown => exact ⟨_, a1, w1, PostD.next hF hb' hq, .pass (x := .inLoop c) rfl (fun _ _ => .inl (by simp)) harr⟩
  obtain ⟨e, a2, w2, hq, harr⟩ := key _ x0 F [] al M a w rfl h0 (Ext.refl F) hi hs rfl (Below.refl _ _)
  exact ⟨e, a2, w2, hq, .of_steps (.one (fenced_calm hbf hrm rfl) stepR_loop) harr⟩
/-- fewer slots are known, less memory is kept -/
theorem ACode.less {c : Code} {al' : Sl} {M' : Mem} (hs : ∀ t v, al'.lookup t = some v → al.lookup t = some v) (hm : M'.Sublist M) (h : ACode ro P n c Q al' M') : ACode ro P n c Q al M := by
  intro B F Mf a w hi hsl
  exact h B F Mf a w (hi.sub (List.Sublist.append hm (List.Sublist.refl _))) (hsl.less hs)
end code
end Go.Proofs.Ytflkdojahfmbnaa
