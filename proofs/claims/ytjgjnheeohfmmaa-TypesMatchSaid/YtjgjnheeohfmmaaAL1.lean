/- A logic of trees over the model's memory, part 1: abstract values, eternal cells, resources, and the rules of code. Nothing of a program is in it. -/
import Derived.WalkKit
import Derived.Lib.Hide
import Derived.Maps.AppendAt
import Derived.Laws.AppendOwnNone
namespace Go.Proofs.Ytjgjnheeohfmmaa
open Go.RowKit
/-- cells that never turn again -/
abbrev EH := Nat → Nat → Option Value
def Ext (F F' : EH) : Prop := ∀ b i x, F b i = some x → F' b i = some x
theorem Ext.refl (F : EH) : Ext F F := fun _ _ _ h => h
theorem Ext.trans {F G H : EH} (h : Ext F G) (k : Ext G H) : Ext F H := fun b i x e => k b i x (h b i x e)
def Lies (F : EH) (b off : Nat) (vs : List Value) : Prop := ∀ j x, vs[j]? = some x → F b (off + j) = some x
theorem Lies.mono {F F' : EH} (h : Ext F F') {b off : Nat} {vs : List Value} (k : Lies F b off vs) : Lies F' b off vs := fun j x e => h _ _ _ (k j x e)
/-- values as trees -/
inductive AV where
  | val (v : Value)
  | seq (m : Nat) (es : List (List AV))
  | own (u : Value) (m : Nat) (es : List (List AV))
  | agg (cs : List AV)
  | tup (vs : List AV)
  | ptr (b off : Nat)
  | cptr (cs : List AV)
  | arr (b off n cap : Nat)
  | clo (fn : Fn) (first capt : List AV)
def Ones (vs : List Value) : Prop := ∀ v ∈ vs, v.oneCell' = true
mutual
inductive Rel (F : EH) : AV → Value → Prop
  | val (v : Value) : Rel F (.val v) v
  | agg {cs : List AV} {vs : List Value} (h : Rels F cs vs) (h1 : Ones vs) : Rel F (.agg cs) (.agg vs.toArray)
  | tup {cs : List AV} {vs : List Value} (h : Rels F cs vs) : Rel F (.tup cs) (.tuple vs.toArray)
  | ptr (b off : Nat) : Rel F (.ptr b off) (.pointer (some ⟨b, off, none⟩))
  | cptr {cs : List AV} {vs : List Value} (b off : Nat) (hl : Lies F b off vs) (h : Rels F cs vs) (h1 : Ones vs) : Rel F (.cptr cs) (.pointer (some ⟨b, off, none⟩))
  | arr (b off n cap : Nat) : Rel F (.arr b off n cap) (.slice (some ⟨b, off, none⟩) n cap)
  | seq0 (m : Nat) (ao : Option Addr) (cap : Nat) (h : ao = none → cap = 0) : Rel F (.seq m []) (.slice ao 0 cap)
  | seq {m : Nat} {es : List (List AV)} {vs : List Value} (b off cap : Nat) (hm : ∀ e ∈ es, e.length = m) (hn : es.length ≤ maxLen) (hl : Lies F b off vs) (h : Rels F es.flatten vs) (h1 : Ones vs) : Rel F (.seq m es) (.slice (some ⟨b, off, none⟩) es.length cap)
  | own (u : Value) {m : Nat} {es : List (List AV)} (h : Rel F (.seq m es) u) : Rel F (.own u m es) u
  | clo (fn : Fn) {fs cs : List AV} {vf vc : List Value} (hf : Rels F fs vf) (hc : Rels F cs vc) : Rel F (.clo fn fs cs) (.func fn vf.toArray vc.toArray)
inductive Rels (F : EH) : List AV → List Value → Prop
  | nil : Rels F [] []
  | cons {a : AV} {v : Value} {as : List AV} {vs : List Value} (h : Rel F a v) (hs : Rels F as vs) : Rels F (a :: as) (v :: vs)
end
mutual
theorem Rel.mono {F F' : EH} (hF : Ext F F') : ∀ {a : AV} {v : Value}, Rel F a v → Rel F' a v
  | _, _, .val v => .val v
  | _, _, .agg h h1 => .agg (Rels.mono hF h) h1
  | _, _, .tup h => .tup (Rels.mono hF h)
  | _, _, .ptr b off => .ptr b off
  | _, _, .cptr b off hl h h1 => .cptr b off (hl.mono hF) (Rels.mono hF h) h1
  | _, _, .arr b off n cap => .arr b off n cap
  | _, _, .seq0 m ao cap h => .seq0 m ao cap h
  | _, _, .seq b off cap hm hn hl h h1 => .seq b off cap hm hn (hl.mono hF) (Rels.mono hF h) h1
  | _, _, .own u h => .own u (Rel.mono hF h)
  | _, _, .clo fn hf hc => .clo fn (Rels.mono hF hf) (Rels.mono hF hc)
theorem Rels.mono {F F' : EH} (hF : Ext F F') : ∀ {a : List AV} {v : List Value}, Rels F a v → Rels F' a v
  | _, _, .nil => .nil
  | _, _, .cons h hs => .cons (Rel.mono hF h) (Rels.mono hF hs)
end
theorem Rels.len {F : EH} : ∀ {as : List AV} {vs : List Value}, Rels F as vs → as.length = vs.length
  | _, _, .nil => rfl
  | _, _, .cons _ hs => by simp [Rels.len hs]
theorem Rels.app {F : EH} : ∀ {as : List AV} {vs : List Value} {bs : List AV} {us : List Value}, Rels F as vs → Rels F bs us → Rels F (as ++ bs) (vs ++ us)
  | _, _, _, _, .nil, k => k
  | _, _, _, _, .cons h hs, k => .cons h (Rels.app hs k)
theorem Rels.split {F : EH} : ∀ {as bs : List AV} {ws : List Value}, Rels F (as ++ bs) ws → ∃ vs us, ws = vs ++ us ∧ Rels F as vs ∧ Rels F bs us
  | [], _, ws, h => ⟨[], ws, rfl, .nil, h⟩
  | _ :: _, _, _, .cons h hs => by
    obtain ⟨vs, us, rfl, h1, h2⟩ := Rels.split hs
    exact ⟨_ :: vs, us, rfl, .cons h h1, h2⟩
theorem Rels.get {F : EH} : ∀ {as : List AV} {vs : List Value}, Rels F as vs → ∀ {i : Nat} {a : AV}, as[i]? = some a → ∃ v, vs[i]? = some v ∧ Rel F a v
  | _, _, .nil, i, a, h => by simp at h
  | _, _, .cons (v := v) h hs, 0, a, e => by simp at e; subst e; exact ⟨v, by simp, h⟩
  | _, _, .cons h hs, i + 1, a, e => by
    simp at e
    obtain ⟨v, h1, h2⟩ := Rels.get hs e
    exact ⟨v, by simpa using h1, h2⟩
theorem Rels.drop {F : EH} {as : List AV} {vs : List Value} (h : Rels F as vs) (n : Nat) : Rels F (as.drop n) (vs.drop n) := by
  induction n generalizing as vs with
  | zero => simpa using h
  | succ n ih =>
    cases h with
    | nil => simpa using Rels.nil
    | cons h hs => simpa using ih hs
theorem Rels.take {F : EH} {as : List AV} {vs : List Value} (h : Rels F as vs) (n : Nat) : Rels F (as.take n) (vs.take n) := by
  induction n generalizing as vs with
  | zero => simpa using Rels.nil
  | succ n ih =>
    cases h with
    | nil => simpa using Rels.nil
    | cons h hs => simpa using Rels.cons h (ih hs)
theorem Rels.set {F : EH} {as : List AV} {vs : List Value} (h : Rels F as vs) (i : Nat) {a : AV} {v : Value} (k : Rel F a v) : Rels F (as.set i a) (vs.set i v) := by
  induction i generalizing as vs with
  | zero => cases h with
    | nil => exact .nil
    | cons h hs => exact .cons k hs
  | succ i ih => cases h with
    | nil => exact .nil
    | cons h hs => exact .cons h (ih hs)
/-- what a call may write: a block of cells, or a slice that may grow -/
inductive Res where
  | loc (b : Nat) (cs : List AV)
  | own (e : TypeId) (m : Nat) (u : Value)
def Res.blk : Res → Option Nat
  | .loc b _ => some b
  | .own _ _ u => u.ownBlock
def Res.Ok (B : Nat) (F : EH) (w : World) : Res → Prop
  | .loc b cs => B ≤ b ∧ (∀ i, F b i = none) ∧ ∃ vs T, w.heap[b]? = some (.cells vs.toArray T (0, 0)) ∧ Rels F cs vs ∧ Ones vs
  | .own e m u => ∃ n xs, w.ownsRow B e m u n xs ∧ ∀ g i, u.ownBlock = some g → n * m ≤ i → F g i = none
def Far (r r' : Res) : Prop := r.blk = none ∨ r.blk ≠ r'.blk
theorem Far.symm {r r' : Res} (h : Far r r') : Far r' r := by
  unfold Far at *
  rcases h with h | h
  · cases k : r'.blk with
    | none => exact Or.inl rfl
    | some b => right; rw [h]; simp
  · exact Or.inr (fun e => h e.symm)
abbrev Mem := List Res
structure Inv (B : Nat) (F : EH) (M : Mem) (w : World) : Prop where
  base : B ≤ w.heap.size
  fix : ∀ b i x, F b i = some x → w.cell? ⟨b, i, none⟩ = some x
  ok : ∀ r ∈ M, r.Ok B F w
  far : M.Pairwise Far
theorem cell_size {w : World} {b i : Nat} {x : Value} (h : w.cell? ⟨b, i, none⟩ = some x) : b < w.heap.size := by
  unfold World.cell? at h
  rcases Nat.lt_or_ge b w.heap.size with k | k
  · exact k
  · rw [Array.getElem?_eq_none (by exact k)] at h; simp at h
theorem Inv.dom {B : Nat} {F : EH} {M : Mem} {w : World} (h : Inv B F M w) {b i : Nat} (hb : w.heap.size ≤ b) : F b i = none := by
  cases k : F b i with
  | none => rfl
  | some x => have := cell_size (h.fix b i x k); omega
theorem Res.Ok.lt {B : Nat} {F : EH} {w : World} {r : Res} (h : r.Ok B F w) {b : Nat} (hb : r.blk = some b) : b < w.heap.size := by
  cases r with
  | loc b' cs =>
    obtain ⟨_, _, vs, T, h3, _⟩ := h
    simp [Res.blk] at hb; subst hb
    rcases Nat.lt_or_ge b' w.heap.size with k | k
    · exact k
    · rw [Array.getElem?_eq_none k] at h3; simp at h3
  | own e m u =>
    obtain ⟨n, xs, h1, _⟩ := h
    rcases h1.2 with ⟨rfl, _⟩ | ⟨g, cap, cur, rfl, _, h3, _⟩
    · simp [Res.blk, Value.ownBlock] at hb
    · simp [Res.blk, Value.ownBlock] at hb; subst hb
      rcases Nat.lt_or_ge g w.heap.size with k | k
      · exact k
      · rw [Array.getElem?_eq_none k] at h3; simp at h3
theorem Res.Ok.ge {B : Nat} {F : EH} {w : World} {r : Res} (h : r.Ok B F w) {b : Nat} (hb : r.blk = some b) : B ≤ b := by
  cases r with
  | loc b' cs => simp [Res.blk] at hb; subst hb; exact h.1
  | own e m u =>
    obtain ⟨n, xs, h1, _⟩ := h
    rcases h1.2 with ⟨rfl, _⟩ | ⟨g, cap, cur, rfl, h2, _⟩
    · simp [Res.blk, Value.ownBlock] at hb
    · simp [Res.blk, Value.ownBlock] at hb; subst hb; exact h2
/-- a resource whose block stays is as it was -/
theorem Res.Ok.stay {B : Nat} {F F' : EH} {w w' : World} {r : Res} (h : r.Ok B F w) (hF : Ext F F') (hb : ∀ b, r.blk = some b → w'.heap[b]? = w.heap[b]? ∧ ∀ i, F' b i = F b i) : r.Ok B F' w' := by
  cases r with
  | loc b cs =>
    obtain ⟨h1, h2, vs, T, h3, h4, h5⟩ := h
    obtain ⟨k1, k2⟩ := hb b rfl
    exact ⟨h1, fun i => by rw [k2 i, h2 i], vs, T, by rw [k1, h3], h4.mono hF, h5⟩
  | own e m u =>
    obtain ⟨n, xs, h1, h2⟩ := h
    refine ⟨n, xs, ⟨h1.1, ?_⟩, fun g i hg hi => ?_⟩
    · rcases h1.2 with h | ⟨g, cap, cur, q1, q2, q3, q4⟩
      · exact Or.inl h
      · refine Or.inr ⟨g, cap, cur, q1, q2, ?_, q4⟩
        rw [(hb g (by rw [q1]; rfl)).1]; exact q3
    · rw [(hb g hg).2 i]; exact h2 g i hg hi
theorem Inv.sub {B : Nat} {F : EH} {M M' : Mem} {w : World} (h : Inv B F M w) (hs : M'.Sublist M) : Inv B F M' w :=
  ⟨h.base, h.fix, fun r hr => h.ok r (hs.subset hr), h.far.sublist hs⟩
theorem Inv.perm {B : Nat} {F : EH} {M M' : Mem} {w : World} (h : Inv B F M w) (hp : M.Perm M') : Inv B F M' w :=
  ⟨h.base, h.fix, fun r hr => h.ok r (hp.symm.subset hr), hp.pairwise h.far (fun h => h.symm)⟩
theorem Inv.drew {B : Nat} {F : EH} {M : Mem} {w : World} (h : Inv B F M w) : Inv B F M w.drew :=
  ⟨h.base, h.fix, fun r hr => (h.ok r hr).stay (Ext.refl F) (fun _ _ => ⟨rfl, fun _ => rfl⟩), h.far⟩
/-- known slots -/
abbrev Sl := List (Nat × AV)
def Slots (n : Nat) (F : EH) (al : Sl) (tmps : Array Value) : Prop := tmps.size = n ∧ ∀ t v, al.lookup t = some v → t < n ∧ Rel F v (tmps.getD t undef)
def Sl.put (al : Sl) (d : Option Tmp) (v : AV) : Sl := match d with | some d => (d, v) :: al | none => al
def Sl.ev (al : Sl) : Operand → Option AV
  | .tmp t => al.lookup t
  | .const v => some (.val v)
  | .global g => some (.val (.pointer (some ⟨g, 0, none⟩)))
  | .func f => some (.clo (.func f) [] [])
theorem Slots.mono {n : Nat} {F F' : EH} {al : Sl} {tmps : Array Value} (h : Slots n F al tmps) (hF : Ext F F') : Slots n F' al tmps :=
  ⟨h.1, fun t v e => ⟨(h.2 t v e).1, (h.2 t v e).2.mono hF⟩⟩
theorem Slots.ev {n : Nat} {F : EH} {al : Sl} {a : Act} (h : Slots n F al a.tmps) {x : Operand} {v : AV} (e : al.ev x = some v) : Rel F v (a.eval x) := by
  cases x with
  | tmp t => exact (h.2 t v e).2
  | const u => simp [Sl.ev] at e; subst e; exact .val u
  | global g => simp [Sl.ev] at e; subst e; exact .val _
  | func f => simp [Sl.ev] at e; subst e; exact .clo _ .nil .nil
theorem Slots.put {n : Nat} {F : EH} {al : Sl} {a : Act} (h : Slots n F al a.tmps) {d : Option Tmp} {v : AV} {u : Value} (hd : d.all (· < n) = true) (k : Rel F v u) : Slots n F (al.put d v) (a.put d u).tmps := by
  cases d with
  | none => exact h
  | some d =>
    simp at hd
    refine ⟨by simp [Act.put, h.1], fun t v' e => ?_⟩
    simp only [Sl.put, List.lookup_cons] at e
    by_cases q : t = d
    · subst q
      simp at e
      subst e
      refine ⟨hd, ?_⟩
      have : t < a.tmps.size := by rw [h.1]; exact hd
      simpa [Act.put, Array.getD, this] using k
    · have : (t == d) = false := by simpa using q
      rw [this] at e
      refine ⟨(h.2 t v' e).1, ?_⟩
      have hh := (h.2 t v' e).2
      have e2 : (a.put (some d) u).tmps.getD t undef = a.tmps.getD t undef := by
        simp only [Act.put, Array.getD_eq_getD_getElem?, Array.getElem?_setIfInBounds]
        rw [if_neg (fun e => q e.symm)]
      rw [e2]; exact hh
/-- fewer slots are known -/
theorem Slots.less {n : Nat} {F : EH} {al al' : Sl} {tmps : Array Value} (h : Slots n F al tmps) (hs : ∀ t v, al'.lookup t = some v → al.lookup t = some v) : Slots n F al' tmps :=
  ⟨h.1, fun t v e => h.2 t v (hs t v e)⟩
/-- what a step leaves -/
def Post (n B : Nat) (F : EH) (Mf : Mem) (w : World) (Q : Sl → Mem → Prop) (a' : Act) (w' : World) : Prop :=
  ∃ F' al' M', Q al' M' ∧ Ext F F' ∧ Inv B F' (M' ++ Mf) w' ∧ Slots n F' al' a'.tmps ∧ a'.defers = [] ∧ Below B w w'
theorem Post.mono {n B : Nat} {F : EH} {Mf : Mem} {w : World} {Q Q' : Sl → Mem → Prop} (hq : ∀ al M, Q al M → Q' al M) {a' : Act} {w' : World} (h : Post n B F Mf w Q a' w') : Post n B F Mf w Q' a' w' := by
  obtain ⟨F', al', M', h1, h2⟩ := h
  exact ⟨F', al', M', hq _ _ h1, h2⟩
theorem Post.next {n B : Nat} {F F' : EH} {Mf : Mem} {w w' : World} {Q : Sl → Mem → Prop} {a'' : Act} {w'' : World} (hF : Ext F F') (hb : Below B w w') (h : Post n B F' Mf w' Q a'' w'') : Post n B F Mf w Q a'' w'' := by
  obtain ⟨F2, al', M', h1, h2, h3, h4, h5, h6⟩ := h
  exact ⟨F2, al', M', h1, hF.trans h2, h3, h4, h5, hb.trans h6⟩
/-- one operation: the value that it yields, and the memory behind it -/
def OpT (P : Program) (o : Oper) (al : Sl) (M : Mem) (K : AV → Mem → Prop) : Prop :=
  ∀ (n B : Nat) (F : EH) (Mf : Mem) (a : Act) (w : World), Inv B F (M ++ Mf) w → Slots n F al a.tmps →
    o.wp P a w (fun a' w' => ∃ u v M' F', a' = a.put o.dst u ∧ K v M' ∧ Rel F' v u ∧ Ext F F' ∧ Inv B F' (M' ++ Mf) w' ∧ Below B w w') (fun _ _ _ => False)
/-- a row of operations -/
def AOps (P : Program) (n : Nat) (ops : Array Oper) (Q : Sl → Mem → Prop) (l : List Oper) (al : Sl) (M : Mem) : Prop :=
  ∀ (B : Nat) (F : EH) (Mf : Mem) (a : Act) (w : World), Inv B F (M ++ Mf) w → Slots n F al a.tmps → a.defers = [] →
    wpList P ops (fun e a' w' => e = .normal ∧ Post n B F Mf w Q a' w') l a w
def ACode (P : Program) (n : Nat) (c : Code) (Q : Exit → Sl → Mem → Prop) (al : Sl) (M : Mem) : Prop :=
  ∀ (B : Nat) (F : EH) (Mf : Mem) (a : Act) (w : World), Inv B F (M ++ Mf) w → Slots n F al a.tmps → a.defers = [] →
    c.wp P (fun e a' w' => Post n B F Mf w (Q e) a' w') a w
theorem wp_exits {P : Program} {o : Oper} {a : Act} {w : World} {K : Act → World → Prop} {Q : Exit → Act → World → Prop} (h : o.wp P a w K (fun _ _ _ => False)) : o.wp P a w K Q := by
  unfold Oper.wp at *
  generalize (execOp a.eval o).run P w = r at *
  cases r with
  | ok n w' =>
    cases n <;> simp only [Oper.upon] at h ⊢ <;> first
      | exact h
      | exact Calls.mono h (fun e w'' he => by
          cases e with
          | returned v => exact he
          | panicked c => exact he.elim
          | outgrown => obtain ⟨_, _, hf⟩ := he; exact hf.elim)
  | halt x w' => cases x <;> simp only [Oper.upon] at h
theorem AOps.nil {P : Program} {n : Nat} {ops : Array Oper} {Q : Sl → Mem → Prop} {al : Sl} {M : Mem} (h : Q al M) : AOps P n ops Q [] al M := by
  intro B F Mf a w hi hs hd
  exact wpList_nil ⟨rfl, F, al, M, h, Ext.refl F, hi, hs, hd, Below.refl _ _⟩
theorem AOps.step {P : Program} {n : Nat} {ops : Array Oper} {Q : Sl → Mem → Prop} {al : Sl} {M : Mem} {o : Oper} {rest : List Oper} (hg : o.guard = none) (hd : o.dst.all (· < n) = true)
    (h : OpT P o al M (fun v M' => AOps P n ops Q rest (al.put o.dst v) M')) : AOps P n ops Q (o :: rest) al M := by
  intro B F Mf a w hi hs hdf
  refine wpList_plain hg fun K hK => ?_
  refine wp_exits (Oper.wp_mono ?_ (h n B F Mf a w hi hs))
  rintro a' w' ⟨u, v, M', F', rfl, hk, hr, hF, hi', hb⟩
  refine hK _ _ ?_
  have := hk B F' Mf (a.put o.dst u) w' hi' ((hs.mono hF).put hd hr) (by cases o.dst <;> exact hdf)
  have mono : ∀ (l : List Oper) (a : Act) (w1 : World), wpList P ops (fun e a' w'' => e = .normal ∧ Post n B F' Mf w' Q a' w'') l a w1 → wpList P ops (fun e a' w'' => e = .normal ∧ Post n B F Mf w Q a' w'') l a w1 := by
    intro l
    induction l with
    | nil => intro a w1 h; exact ⟨h.1, h.2.next hF hb⟩
    | cons o l ih =>
      intro a w1 h
      unfold wpList at h ⊢
      split
      · rename_i hw
        rw [if_pos hw] at h
        rcases h with h | ⟨_, _, _, h, _⟩
        · left
          have : o.wp P a w1 (wpList P ops (fun e a' w'' => e = .normal ∧ Post n B F Mf w Q a' w'') l) (fun e a' w'' => e = .normal ∧ Post n B F' Mf w' Q a' w'') := Oper.wp_mono (fun a w h => ih a w h) h
          unfold Oper.wp at this ⊢
          generalize (execOp a.eval o).run P w1 = r at this
          cases r with
          | ok nx w2 =>
            cases nx <;> simp only [Oper.upon] at this ⊢ <;> first
              | exact this
              | exact Calls.mono this (fun e w'' he => by
                  cases e with
                  | returned v => exact he
                  | panicked c => exact absurd he.1 (by simp)
                  | outgrown => obtain ⟨_, _, hf, _⟩ := he; exact absurd hf (by simp))
          | halt x w2 => cases x <;> simp only [Oper.upon] at this ⊢ <;> first
            | exact this
            | exact absurd this.1 (by simp)
        · exact absurd h (by simp)
      · rename_i hw
        rw [if_neg hw] at h
        exact ih _ _ h
  exact mono _ _ _ this
/-- an operation that is guarded -/
theorem AOps.guard {P : Program} {n : Nat} {ops : Array Oper} {Q : Sl → Mem → Prop} {al : Sl} {M : Mem} {o : Oper} {rest : List Oper} {j : Nat} {b c : Bool} {t : Tmp} (hg : o.guard = some (j, b)) (hj : (ops[j]?).bind (·.dst) = some t) (hd : o.dst.all (· < n) = true)
    (hc : al.lookup t = some (.val (.bool c)))
    (h1 : c = b → AOps P n ops Q ({ o with guard := none } :: rest) al M) (h2 : c = !b → AOps P n ops Q rest (al.put o.dst (.val undef)) M) : AOps P n ops Q (o :: rest) al M := by
  intro B F Mf a w hi hs hdf
  have hr := hs.2 t _ hc
  have hv : a.tmps[t]? = some (.bool c) := by
    have h3 := hr.2
    have h4 : t < a.tmps.size := by rw [hs.1]; exact hr.1
    generalize hx : a.tmps.getD t undef = x at h3
    cases h3
    rw [Array.getElem?_eq_getElem h4]
    simpa [Array.getD, h4] using hx
  have hw : Region.wanted o (yielded ops a.tmps) = (some c == some b) := by
    simp only [Region.wanted, hg, yielded, hj, Option.bind_some, hv]
  by_cases e : c = b
  · have k := h1 e B F Mf a w hi hs hdf
    unfold wpList at k ⊢
    rw [if_pos (by simp [Region.wanted])] at k
    rw [if_pos (by rw [hw, e]; simp)]
    exact k
  · have e' : c = !b := by cases c <;> cases b <;> simp at e ⊢
    unfold wpList
    rw [if_neg (by rw [hw]; simpa using e)]
    exact h2 e' B F Mf (a.put o.dst undef) w hi (hs.put hd (.val _)) (by cases o.dst <;> exact hdf)
/-- its guard was not reached -/
theorem AOps.unguard {P : Program} {n : Nat} {ops : Array Oper} {Q : Sl → Mem → Prop} {al : Sl} {M : Mem} {o : Oper} {rest : List Oper} {j : Nat} {b : Bool} {t : Tmp} (hg : o.guard = some (j, b)) (hj : (ops[j]?).bind (·.dst) = some t) (hd : o.dst.all (· < n) = true)
    (hc : al.lookup t = some (.val undef))
    (h2 : AOps P n ops Q rest (al.put o.dst (.val undef)) M) : AOps P n ops Q (o :: rest) al M := by
  intro B F Mf a w hi hs hdf
  have hr := hs.2 t _ hc
  have hv : a.tmps[t]? = some undef := by
    have h3 := hr.2
    have h4 : t < a.tmps.size := by rw [hs.1]; exact hr.1
    generalize hx : a.tmps.getD t undef = x at h3
    cases h3
    rw [Array.getElem?_eq_getElem h4]
    simpa [Array.getD, h4] using hx
  unfold wpList
  rw [if_neg (by simp [Region.wanted, hg, yielded, hj, hv, undef])]
  exact h2 B F Mf (a.put o.dst undef) w hi (hs.put hd (.val _)) (by cases o.dst <;> exact hdf)
section code
variable {P : Program} {n : Nat} {Q : Exit → Sl → Mem → Prop} {al : Sl} {M : Mem}
theorem ACode.mono {c : Code} {Q' : Exit → Sl → Mem → Prop} (h : ACode P n c Q al M) (hq : ∀ e al M, Q e al M → Q' e al M) : ACode P n c Q' al M := by
  intro B F Mf a w hi hs hd
  exact Code.wp_mono (fun e a w hp => hp.mono (hq e)) (h B F Mf a w hi hs hd)
theorem ACode.region {id : Nat} {l : List Oper} (h : AOps P n l.toArray (Q .normal) l al M) : ACode P n (.region id l.toArray false) Q al M := by
  intro B F Mf a w hi hs hd
  refine wp_region_lit ?_
  have := h B F Mf a w hi hs hd
  have mono : ∀ (l' : List Oper) (a : Act) (w1 : World), wpList P l.toArray (fun e a' w'' => e = .normal ∧ Post n B F Mf w (Q .normal) a' w'') l' a w1 → wpList P l.toArray (fun e a' w'' => Post n B F Mf w (Q e) a' w'') l' a w1 := by
    intro l'
    induction l' with
    | nil => intro a w1 h; exact h.2
    | cons o l' ih =>
      intro a w1 h
      unfold wpList at h ⊢
      split
      · rename_i hw
        rw [if_pos hw] at h
        rcases h with h | ⟨_, _, _, h, _⟩
        · left
          have : o.wp P a w1 (wpList P l.toArray (fun e a' w'' => Post n B F Mf w (Q e) a' w'') l') (fun e a' w'' => e = .normal ∧ Post n B F Mf w (Q .normal) a' w'') := Oper.wp_mono (fun a w h => ih a w h) h
          unfold Oper.wp at this ⊢
          generalize (execOp a.eval o).run P w1 = r at this
          cases r with
          | ok nx w2 =>
            cases nx <;> simp only [Oper.upon] at this ⊢ <;> first
              | exact this
              | exact Calls.mono this (fun e w'' he => by
                  cases e with
                  | returned v => exact he
                  | panicked c => exact absurd he.1 (by simp)
                  | outgrown => obtain ⟨_, _, hf, _⟩ := he; exact absurd hf (by simp))
          | halt x w2 => cases x <;> simp only [Oper.upon] at this ⊢ <;> first
            | exact this
            | exact absurd this.1 (by simp)
        · exact absurd h (by simp)
      · rename_i hw
        rw [if_neg hw] at h
        exact ih _ _ h
  exact mono _ _ _ this
theorem ACode.skip (h : Q .normal al M) : ACode P n .skip Q al M := fun _ F _ _ _ hi hs hd => wp_skip ⟨F, al, M, h, Ext.refl F, hi, hs, hd, Below.refl _ _⟩
theorem ACode.label {l : Nat} (h : Q .normal al M) : ACode P n (.label l) Q al M := fun _ F _ _ _ hi hs hd => wp_label ⟨F, al, M, h, Ext.refl F, hi, hs, hd, Below.refl _ _⟩
theorem ACode.exit {id : Nat} (h : Q (.exit id) al M) : ACode P n (.exit id) Q al M := fun _ F _ _ _ hi hs hd => wp_exit ⟨F, al, M, h, Ext.refl F, hi, hs, hd, Below.refl _ _⟩
theorem ACode.ret (h : Q .ret al M) : ACode P n .ret Q al M := fun _ F _ _ _ hi hs hd => wp_ret ⟨F, al, M, h, Ext.refl F, hi, hs, hd, Below.refl _ _⟩
/-- behind a piece that ended normally goes on the next; other exits go out -/
def Then (K : Sl → Mem → Prop) (Q : Exit → Sl → Mem → Prop) : Exit → Sl → Mem → Prop
  | .normal, al, M => K al M
  | e, al, M => Q e al M
theorem ACode.seq {x y : Code} (h : ACode P n x (Then (ACode P n y Q) Q) al M) : ACode P n (.seq x y) Q al M := by
  intro B F Mf a w hi hs hd
  refine wp_seq (Code.wp_mono (fun e a' w' hp => ?_) (h B F Mf a w hi hs hd))
  cases e with
  | normal =>
    obtain ⟨F', al', M', h1, h2, h3, h4, h5, h6⟩ := hp
    exact Code.wp_mono (fun e a'' w'' hp => hp.next h2 h6) (h1 B F' Mf a' w' h3 h4 h5)
  | exit id => exact hp
  | goto l => exact hp
  | ret => exact hp
  | panic c => exact hp
  | outgrown => exact hp
theorem ACode.cond {c : Operand} {x y : Code} {b : Bool} (hc : al.ev c = some (.val (.bool b))) (h1 : b = true → ACode P n x Q al M) (h2 : b = false → ACode P n y Q al M) : ACode P n (.cond c x y) Q al M := by
  intro B F Mf a w hi hs hd
  have hr := hs.ev hc
  generalize hv : a.eval c = v at hr
  cases hr
  refine wp_cond hv ?_
  cases b
  · exact h2 rfl B F Mf a w hi hs hd
  · exact h1 rfl B F Mf a w hi hs hd
def InBlk (id : Nat) (Q : Exit → Sl → Mem → Prop) : Exit → Sl → Mem → Prop
  | .exit i, al, M => if i = id then Q .normal al M else Q (.exit i) al M
  | e, al, M => Q e al M
theorem ACode.block {id : Nat} {c : Code} (h : ACode P n c (InBlk id Q) al M) : ACode P n (.block id c) Q al M := by
  intro B F Mf a w hi hs hd
  refine wp_block (Code.wp_mono (fun e a' w' hp => ?_) (h B F Mf a w hi hs hd))
  cases e with
  | exit i =>
    simp only [Exit.inBlock]
    by_cases e : i = id
    · subst e
      rw [if_pos rfl]
      exact hp.mono (fun al M h => by simpa [InBlk] using h)
    · rw [if_neg e]
      exact hp.mono (fun al M h => by simpa [InBlk, e] using h)
  | normal => exact hp
  | goto l => exact hp
  | ret => exact hp
  | panic c => exact hp
  | outgrown => exact hp
/-- a loop: I at its head for a ghost x, whose measure goes down -/
theorem ACode.loop {c : Code} {σ : Type} (I : σ → Sl → Mem → Prop) (μ : σ → Nat) (x0 : σ) (h0 : I x0 al M)
    (h : ∀ x al M, I x al M → ACode P n c (Then (fun al' M' => ∃ x', I x' al' M' ∧ μ x' < μ x) Q) al M) : ACode P n (.loop c) Q al M := by
  intro B F Mf a w hi hs hd b k cs
  have key : ∀ m x F' al' M' a' w', μ x = m → I x al' M' → Ext F F' → Inv B F' (M' ++ Mf) w' → Slots n F' al' a'.tmps → a'.defers = [] → Below B w w' →
      ∃ e a2 w2, Post n B F Mf w (Q e) a2 w2 ∧ Arrives P (lone (b.at a' (.code c :: .inLoop c :: k)) cs w') b k cs e a2 w2 := by
    intro m
    induction m using Nat.strongRecOn with
    | _ m ih =>
      intro x F' al' M' a' w' hm hI hF hi' hs' hd' hb'
      obtain ⟨e, a1, w1, hq, harr⟩ := h x al' M' hI B F' Mf a' w' hi' hs' hd' b (.inLoop c :: k) cs
      cases e with
      | normal =>
        obtain ⟨F2, al2, M2, ⟨x', hI2, hlt⟩, h2, h3, h4, h5, h6⟩ := hq
        obtain ⟨e2, a2, w2, hq2, harr2⟩ := ih (μ x') (by omega) x' F2 al2 M2 a1 w1 rfl hI2 (hF.trans h2) h3 h4 h5 (hb'.trans h6)
        exact ⟨e2, a2, w2, hq2, .of_steps (Steps.trans harr (.one step_inLoop)) harr2⟩
      | exit id => exact ⟨_, a1, w1, Post.next hF hb' hq, .pass (x := .inLoop c) rfl (fun _ _ => .inl (by simp)) harr⟩
      | goto l => exact ⟨_, a1, w1, Post.next hF hb' hq, .pass (x := .inLoop c) rfl (fun _ _ => .inl (by simp)) harr⟩
      | ret => exact ⟨_, a1, w1, Post.next hF hb' hq, .pass (x := .inLoop c) rfl (fun _ _ => .inl (by simp)) harr⟩
      | panic ch => exact ⟨_, a1, w1, Post.next hF hb' hq, .pass (x := .inLoop c) rfl (fun _ _ => .inl (by simp)) harr⟩
      | outgrown => exact ⟨_, a1, w1, Post.next hF hb' hq, .pass (x := .inLoop c) rfl (fun _ _ => .inl (by simp)) harr⟩
  obtain ⟨e, a2, w2, hq, harr⟩ := key _ x0 F al M a w rfl h0 (Ext.refl F) hi hs hd (Below.refl _ _)
  exact ⟨e, a2, w2, hq, .of_steps (.one step_loop) harr⟩
/-- fewer slots are known, less memory is kept -/
theorem ACode.less {c : Code} {al' : Sl} {M' : Mem} (hs : ∀ t v, al'.lookup t = some v → al.lookup t = some v) (hm : M'.Sublist M) (h : ACode P n c Q al' M') : ACode P n c Q al M := by
  intro B F Mf a w hi hsl hd
  exact h B F Mf a w (hi.sub (List.Sublist.append hm (List.Sublist.refl _))) (hsl.less hs) hd
end code
end Go.Proofs.Ytjgjnheeohfmmaa
