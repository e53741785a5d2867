/- Plain data in memory: a tree of numbers, strings, bools, records and sequences, laid in cells of blocks of a set X; what was laid stays as long as those blocks stay. -/
import Derived.Test.YtecpnlhjjmcllaaAP
namespace Go.Proofs.Ytecpnlhjjmcllaa
open Go.RowKit
/-- data -/
inductive Tr where
  | int (n : Int)
  | str (s : ByteArray)
  | boo (b : Bool)
  | rcd (fs : List Tr)
  | seq (es : List Tr)
/-- a slice's own form: nil has no room, and no length is beyond an int -/
def SlOk (ao : Option Addr) (cap n : Nat) : Prop := (ao = none → cap = 0) ∧ n ≤ 9223372036854775807
/-- cells lie at an address in a block of X -/
def LieAt (w : World) (X : Nat → Prop) (ao : Option Addr) (mem : List Value) : Prop := ∃ b off, ao = some ⟨b, off, none⟩ ∧ X b ∧ b < w.heap.size ∧ ∀ j, j < mem.length → w.cell? ⟨b, off + j, none⟩ = mem[j]?
mutual
/-- these cells hold this datum -/
def Tr.At (w : World) (X : Nat → Prop) : Tr → List Value → Prop
  | .int n, cs => cs = [.int .i64 n]
  | .str s, cs => cs = [.string s]
  | .boo b, cs => cs = [.bool b]
  | .rcd fs, cs => Tr.Ats w X fs cs
  | .seq es, cs => ∃ ao cap mem, cs = [.slice ao es.length cap] ∧ Tr.Ats w X es mem ∧ SlOk ao cap es.length ∧ (es = [] ∨ LieAt w X ao mem)
/-- these cells hold these data, one behind the other -/
def Tr.Ats (w : World) (X : Nat → Prop) : List Tr → List Value → Prop
  | [], cs => cs = []
  | t :: ts, cs => ∃ a b, cs = a ++ b ∧ Tr.At w X t a ∧ Tr.Ats w X ts b
end
/-- the blocks of X stay -/
def Stays (w w' : World) (X : Nat → Prop) : Prop := w.heap.size ≤ w'.heap.size ∧ ∀ b, X b → b < w.heap.size → w'.heap[b]? = w.heap[b]?
theorem LieAt.stay {w w' : World} {X Y : Nat → Prop} {ao : Option Addr} {mem : List Value} (h : LieAt w X ao mem) (hs : Stays w w' X) (hXY : ∀ b, X b → b < w.heap.size → Y b) : LieAt w' Y ao mem := by
  obtain ⟨b, off, e, hx, hb, hc⟩ := h
  refine ⟨b, off, e, hXY b hx hb, Nat.lt_of_lt_of_le hb hs.1, fun j hj => ?_⟩
  rw [← hc j hj]
  exact World.cell?_of_block (w := w) (hs.2 b hx hb)
mutual
theorem Tr.At.stay {w w' : World} {X Y : Nat → Prop} (hs : Stays w w' X) (hXY : ∀ b, X b → b < w.heap.size → Y b) : ∀ (t : Tr) (cs : List Value), Tr.At w X t cs → Tr.At w' Y t cs
  | .int _, _, h => by simpa [Tr.At] using h
  | .str _, _, h => by simpa [Tr.At] using h
  | .boo _, _, h => by simpa [Tr.At] using h
  | .rcd fs, cs, h => by
    rw [Tr.At] at h ⊢
    exact Tr.Ats.stay hs hXY fs cs h
  | .seq es, cs, h => by
    rw [Tr.At] at h ⊢
    obtain ⟨ao, cap, mem, h1, h2, h3, h4⟩ := h
    refine ⟨ao, cap, mem, h1, Tr.Ats.stay hs hXY es mem h2, h3, ?_⟩
    rcases h4 with h4 | h4
    · exact Or.inl h4
    · exact Or.inr (h4.stay hs hXY)
theorem Tr.Ats.stay {w w' : World} {X Y : Nat → Prop} (hs : Stays w w' X) (hXY : ∀ b, X b → b < w.heap.size → Y b) : ∀ (ts : List Tr) (cs : List Value), Tr.Ats w X ts cs → Tr.Ats w' Y ts cs
  | [], _, h => by simpa [Tr.Ats] using h
  | t :: ts, cs, h => by
    rw [Tr.Ats] at h ⊢
    obtain ⟨a, b, h1, h2, h3⟩ := h
    exact ⟨a, b, h1, Tr.At.stay hs hXY t a h2, Tr.Ats.stay hs hXY ts b h3⟩
end
/-- any block -/
def Any : Nat → Prop := fun _ => True
theorem Stays.refl (w : World) (X : Nat → Prop) : Stays w w X := ⟨Nat.le_refl _, fun _ _ _ => rfl⟩
theorem Stays.below {w w' : World} (hb : Below w.heap.size w w') (X : Nat → Prop) : Stays w w' X := ⟨hb.size, fun b _ h => hb.block b h⟩
theorem Tr.At.below {w w' : World} {X : Nat → Prop} (hb : Below w.heap.size w w') (t : Tr) (cs : List Value) (h : Tr.At w X t cs) : Tr.At w' X t cs := Tr.At.stay (Stays.below hb X) (fun _ h _ => h) t cs h
theorem Tr.Ats.below {w w' : World} {X : Nat → Prop} (hb : Below w.heap.size w w') (ts : List Tr) (cs : List Value) (h : Tr.Ats w X ts cs) : Tr.Ats w' X ts cs := Tr.Ats.stay (Stays.below hb X) (fun _ h _ => h) ts cs h
theorem Tr.At.any {w : World} {X : Nat → Prop} {t : Tr} {cs : List Value} (h : Tr.At w X t cs) : Tr.At w Any t cs := Tr.At.stay (Stays.refl w X) (fun _ _ _ => trivial) t cs h
theorem Tr.Ats.any {w : World} {X : Nat → Prop} {ts : List Tr} {cs : List Value} (h : Tr.Ats w X ts cs) : Tr.Ats w Any ts cs := Tr.Ats.stay (Stays.refl w X) (fun _ _ _ => trivial) ts cs h
mutual
theorem Tr.At.one {w : World} {X : Nat → Prop} : ∀ (t : Tr) (cs : List Value), Tr.At w X t cs → ∀ u ∈ cs, u.oneCell' = true
  | .int _, _, h => by rw [Tr.At] at h; subst h; intro u hu; simp at hu; subst hu; rfl
  | .str _, _, h => by rw [Tr.At] at h; subst h; intro u hu; simp at hu; subst hu; rfl
  | .boo _, _, h => by rw [Tr.At] at h; subst h; intro u hu; simp at hu; subst hu; rfl
  | .rcd fs, cs, h => by rw [Tr.At] at h; exact Tr.Ats.one' fs cs h
  | .seq es, cs, h => by
    rw [Tr.At] at h
    obtain ⟨ao, cap, mem, rfl, _⟩ := h
    intro u hu; simp at hu; subst hu; rfl
theorem Tr.Ats.one' {w : World} {X : Nat → Prop} : ∀ (ts : List Tr) (cs : List Value), Tr.Ats w X ts cs → ∀ u ∈ cs, u.oneCell' = true
  | [], _, h => by rw [Tr.Ats] at h; subst h; simp
  | t :: ts, cs, h => by
    rw [Tr.Ats] at h
    obtain ⟨a, b, rfl, h2, h3⟩ := h
    intro u hu
    rcases List.mem_append.1 hu with hu | hu
    · exact Tr.At.one t a h2 u hu
    · exact Tr.Ats.one' ts b h3 u hu
end
/-- each element takes so many cells -/
def Tr.Wide (m : Nat) (es : List Tr) : Prop := ∀ e ∈ es, ∀ w X cs, Tr.At w X e cs → cs.length = m
theorem Tr.Ats.len {w : World} {X : Nat → Prop} {m : Nat} : ∀ {es : List Tr} {mem : List Value}, Tr.Ats w X es mem → Tr.Wide m es → mem.length = es.length * m
  | [], mem, h, _ => by simp [Tr.Ats] at h; simp [h]
  | e :: es, mem, h, hw => by
    rw [Tr.Ats] at h
    obtain ⟨a, b, rfl, h2, h3⟩ := h
    have h4 := hw e (by simp) w X a h2
    have h5 := Tr.Ats.len h3 (fun x hx => hw x (by simp [hx]))
    simp only [List.length_append, List.length_cons, h4, h5, Nat.add_mul]
    omega
theorem Tr.Ats.get {w : World} {X : Nat → Prop} {m : Nat} : ∀ {es : List Tr} {mem : List Value}, Tr.Ats w X es mem → Tr.Wide m es → ∀ i (h : i < es.length), ∃ cs, Tr.At w X es[i] cs ∧ cs.length = m ∧ ∀ j, j < m → mem[i * m + j]? = cs[j]?
  | [], _, _, _, i, h => by simp at h
  | e :: es, mem, h, hw, i, hi => by
    rw [Tr.Ats] at h
    obtain ⟨a, b, rfl, h2, h3⟩ := h
    have h4 := hw e (by simp) w X a h2
    cases i with
    | zero =>
      refine ⟨a, h2, h4, fun j hj => ?_⟩
      rw [Nat.zero_mul, Nat.zero_add, List.getElem?_append_left (by omega)]
    | succ i =>
      obtain ⟨cs, c1, c2, c3⟩ := Tr.Ats.get h3 (fun x hx => hw x (by simp [hx])) i (by simpa using hi)
      refine ⟨cs, by simpa using c1, c2, fun j hj => ?_⟩
      rw [List.getElem?_append_right (by rw [h4, Nat.add_mul]; omega), h4, show (i + 1) * m + j - m = i * m + j from by rw [Nat.add_mul]; omega]
      exact c3 j hj
theorem Tr.Ats.app {w : World} {X : Nat → Prop} : ∀ {es : List Tr} {mem : List Value} {fs : List Tr} {nem : List Value}, Tr.Ats w X es mem → Tr.Ats w X fs nem → Tr.Ats w X (es ++ fs) (mem ++ nem)
  | [], mem, fs, nem, h, h' => by simp [Tr.Ats] at h; subst h; simpa using h'
  | e :: es, mem, fs, nem, h, h' => by
    rw [Tr.Ats] at h
    obtain ⟨a, b, rfl, h2, h3⟩ := h
    rw [List.cons_append, Tr.Ats]
    exact ⟨a, b ++ nem, by simp, h2, Tr.Ats.app h3 h'⟩
theorem Tr.Ats.one {w : World} {X : Nat → Prop} {e : Tr} {cs : List Value} (h : Tr.At w X e cs) : Tr.Ats w X [e] cs := by
  rw [Tr.Ats]; exact ⟨cs, [], by simp, h, by simp [Tr.Ats]⟩
/-- a slice value holds these data -/
def SeqX (w : World) (X : Nat → Prop) (es : List Tr) (v : Value) : Prop := Tr.At w X (.seq es) [v]
abbrev SeqV (w : World) (es : List Tr) (v : Value) : Prop := SeqX w Any es v
theorem SeqX.any {w : World} {X : Nat → Prop} {es : List Tr} {v : Value} (h : SeqX w X es v) : SeqV w es v := Tr.At.any h
theorem SeqX.stay {w w' : World} {X Y : Nat → Prop} {es : List Tr} {v : Value} (h : SeqX w X es v) (hs : Stays w w' X) (hXY : ∀ b, X b → b < w.heap.size → Y b) : SeqX w' Y es v := Tr.At.stay hs hXY _ _ h
theorem SeqX.below {w w' : World} {X : Nat → Prop} {es : List Tr} {v : Value} (h : SeqX w X es v) (hb : Below w.heap.size w w') : SeqX w' X es v := Tr.At.below hb _ _ h
theorem SeqX.form {w : World} {X : Nat → Prop} {es : List Tr} {v : Value} (h : SeqX w X es v) : ∃ ao cap mem, v = .slice ao es.length cap ∧ Tr.Ats w X es mem ∧ SlOk ao cap es.length ∧ (es = [] ∨ LieAt w X ao mem) := by
  unfold SeqX at h
  rw [Tr.At] at h
  obtain ⟨ao, cap, mem, h1, h2⟩ := h
  exact ⟨ao, cap, mem, by simpa using h1, h2⟩
theorem SeqX.mk {w : World} {X : Nat → Prop} {es : List Tr} {ao : Option Addr} {cap : Nat} {mem : List Value} (h2 : Tr.Ats w X es mem) (h3 : SlOk ao cap es.length) (h4 : es = [] ∨ LieAt w X ao mem) : SeqX w X es (.slice ao es.length cap) := by
  unfold SeqX
  rw [Tr.At]
  exact ⟨ao, cap, mem, rfl, h2, h3, h4⟩
theorem SeqX.nil (w : World) (X : Nat → Prop) : SeqX w X [] (.slice none 0 0) := SeqX.mk (es := []) (mem := []) (by simp [Tr.Ats]) ⟨fun _ => rfl, by simp⟩ (Or.inl rfl)
theorem SeqV.nil (w : World) : SeqV w [] (.slice none 0 0) := SeqX.nil w Any
/-- element i of a slice of wide elements: its cells in memory -/
theorem SeqX.get {w : World} {X : Nat → Prop} {es : List Tr} {b off n cap m : Nat} (h : SeqX w X es (.slice (some ⟨b, off, none⟩) n cap)) (hw : Tr.Wide m es) (i : Nat) (hi : i < es.length) :
    ∃ cs, Tr.At w X es[i] cs ∧ cs.length = m ∧ ∀ j, j < m → w.cell? ⟨b, off + (i * m + j), none⟩ = cs[j]? := by
  obtain ⟨ao, cap', mem, h1, h2, _, h4⟩ := h.form
  cases h1
  obtain ⟨cs, c1, c2, c3⟩ := h2.get hw i hi
  refine ⟨cs, c1, c2, fun j hj => ?_⟩
  rcases h4 with h4 | ⟨b', off', e, _, _, hc⟩
  · subst h4; simp at hi
  · cases e
    have hl := h2.len hw
    have hlt : i * m + j < mem.length := by
      rw [hl]
      have : (i + 1) * m ≤ es.length * m := Nat.mul_le_mul_right m (by omega)
      rw [Nat.add_mul] at this
      omega
    rw [hc _ hlt]
    exact c3 j hj
theorem SeqX.addr {w : World} {X : Nat → Prop} {es : List Tr} {ao : Option Addr} {n cap : Nat} (h : SeqX w X es (.slice ao n cap)) (hn : 0 < es.length) : ∃ b off, ao = some ⟨b, off, none⟩ := by
  obtain ⟨ao', cap', mem, h1, _, _, h4⟩ := h.form
  cases h1
  rcases h4 with h4 | ⟨b', off', e, _⟩
  · subst h4; simp at hn
  · exact ⟨b', off', e⟩
theorem SeqX.len {w : World} {X : Nat → Prop} {es : List Tr} {ao : Option Addr} {n cap : Nat} (h : SeqX w X es (.slice ao n cap)) : n = es.length := by
  obtain ⟨ao', cap', mem, h1, _⟩ := h.form
  cases h1; rfl
theorem SeqX.max {w : World} {X : Nat → Prop} {es : List Tr} {v : Value} (h : SeqX w X es v) : es.length ≤ 9223372036854775807 := by
  obtain ⟨_, _, _, _, _, h3, _⟩ := h.form
  exact h3.2
theorem SeqX.src {w : World} {X : Nat → Prop} {es : List Tr} {v : Value} {m : Nat} (h : SeqX w X es v) (hw : Tr.Wide m es) : ∃ mem, Tr.Ats w X es mem ∧ Src w m v es.length mem := by
  obtain ⟨ao, cap, mem, rfl, h2, h3, h4⟩ := h.form
  refine ⟨mem, h2, ?_⟩
  have hl := h2.len hw
  rcases ao with _ | ad
  · rcases h4 with rfl | ⟨b, off, e, _⟩
    · refine Or.inl ⟨by rw [h3.1 rfl]; rfl, rfl, ?_⟩
      simpa using hl
    · cases e
  · refine Or.inr ⟨ad, cap, rfl, hl, fun j u hj => ?_⟩
    have hjl : j < mem.length := by
      rcases Nat.lt_or_ge j mem.length with k | k
      · exact k
      · rw [List.getElem?_eq_none k] at hj; simp at hj
    rcases h4 with rfl | ⟨b, off, e, _, _, hc⟩
    · simp at hl; rw [hl] at hjl; simp at hjl
    · cases e
      rw [addr_add, hc j hjl]; exact hj
theorem SeqV.alloc {w : World} {es : List Tr} {mem : List Value} (h : Tr.Ats w Any es mem) (T : TypeId) (g n c : Nat) (hg : g = w.heap.size) (hn : n = es.length) (hm : n ≤ 9223372036854775807) : SeqV (w.alloc (.cells mem.toArray T)) es (.slice (some ⟨g, 0, none⟩) n c) := by
  subst hn
  subst hg
  have hb : Below w.heap.size w (w.alloc (.cells mem.toArray T)) := (Below.refl _ _).alloc (Nat.le_refl _) _
  refine SeqX.mk (Tr.Ats.below hb _ _ h) ⟨by simp, hm⟩ (Or.inr ⟨w.heap.size, 0, rfl, trivial, by simp, fun j hj => ?_⟩)
  rw [Nat.zero_add, World.cell?_alloc_at _ _ _ _ rfl]
  simp
/-- all blocks but the one that a value owns -/
def NotOwn (v : Value) : Nat → Prop := fun b => v.ownBlock ≠ some b
/-- a slice of the call's own that holds these data, which do not lie in its own block -/
def OwnSeq (w : World) (base : Nat) (e : TypeId) (m : Nat) (es : List Tr) (v : Value) : Prop := ∃ xs, w.ownsRow base e m v es.length xs ∧ Tr.Ats w (NotOwn v) es xs
theorem OwnSeq.nil (w : World) (base : Nat) (e : TypeId) (m : Nat) : OwnSeq w base e m [] (.slice none 0 0) := ⟨[], World.ownsRow_nil _ _ _ _, by simp [Tr.Ats]⟩
theorem OwnSeq.below {w w' : World} {base : Nat} {e : TypeId} {m : Nat} {es : List Tr} {v : Value} (h : OwnSeq w base e m es v) (hb : Below w.heap.size w w') : OwnSeq w' base e m es v := by
  obtain ⟨xs, h1, h2⟩ := h
  exact ⟨xs, own_below h1 hb, h2.below hb⟩
theorem OwnSeq.mono {w : World} {base base' : Nat} {e : TypeId} {m : Nat} {es : List Tr} {v : Value} (h : OwnSeq w base e m es v) (hb : base' ≤ base) : OwnSeq w base' e m es v := by
  obtain ⟨xs, h1, h2⟩ := h
  exact ⟨xs, own_mono h1 hb, h2⟩
theorem OwnSeq.seq {w : World} {base : Nat} {e : TypeId} {m : Nat} {es : List Tr} {v : Value} (h : OwnSeq w base e m es v) : SeqV w es v := by
  obtain ⟨xs, h1, h2⟩ := h
  have h' := h1
  rcases h1.2 with ⟨rfl, h0⟩ | ⟨g, cap, cur, rfl, h3, h4, h5, h6, h7, h8⟩
  · have : es = [] := by simpa using h0
    subst this
    exact SeqV.nil w
  · have hg : g < w.heap.size := own_block_lt h' g rfl
    refine SeqX.mk h2.any ⟨by simp, by unfold maxLen at h6; omega⟩ (Or.inr ⟨g, 0, rfl, trivial, hg, fun j hj => ?_⟩)
    rw [Nat.zero_add]
    exact h'.cellAt j (by rw [← h'.1]; exact hj)
/-- what was there before a growth stays, but for the block that grew -/
theorem stays_grown {w w' : World} {v : Value} (hg : w.grownBy w' v.ownBlock) : Stays w w' (NotOwn v) := ⟨hg.size, fun b hb h => hg.block b h (fun e => hb e.symm)⟩
theorem notOwn_grown {w : World} {v v' : Value} (h : v'.ownBlock = v.ownBlock ∨ v'.ownBlock = some w.heap.size) : ∀ b, NotOwn v b → b < w.heap.size → NotOwn v' b := by
  intro b hb hlt e
  rcases h with h | h
  · exact hb (by rw [← h]; exact e)
  · rw [h] at e; simp at e; omega
/-- append of one element, with its data -/
theorem wpList_appT {P : Program} {w : World} {ops : Array Oper} {rest : List Oper} {o : Oper} {a : Act} {Q : Exit → Act → World → Prop} {t e : TypeId} {z : Value} {m bytes : Nat} (E : ElemT P t e z m bytes)
    (hgd : o.guard = none) (s x : Operand) (ho : o.op = .call { callee := .builtin .append, args := #[s, x], argTypes := #[t, t] })
    (B base : Nat) (w0 : World) (v : Value) (es : List Tr) (hs : a.eval s = v) (hown : OwnSeq w base e m es v)
    (g : Nat) (d : Tr) (cs : List Value) (hx : a.eval x = .slice (some ⟨g, 0, none⟩) 1 1) (hl : cs.length = m) (hcs : ∀ j u, cs[j]? = some u → w.cell? ⟨g, j, none⟩ = some u) (hd : Tr.At w (NotOwn v) d cs)
    (hn : es.length ≤ 100000000000) (hB : Below B w0 w) (hBb : B ≤ base) (hbase : base ≤ w.heap.size)
    (h : ∀ v' w', OwnSeq w' base e m (es ++ [d]) v' → Below B w0 w' → (w.grownBy w' v.ownBlock ∧ (v'.ownBlock = v.ownBlock ∨ v'.ownBlock = some w.heap.size)) → wpList P ops Q rest (a.put o.dst v') w') : wpList P ops Q (o :: rest) a w := by
  obtain ⟨xs, h1, h2⟩ := hown
  refine wpList_app E hgd s x ho B base w0 v es.length xs hs h1 g cs hx hl hcs (Tr.At.one d cs hd) hn hB hBb hbase (fun v' w' hown' hb' hg => ?_)
  refine h v' w' ⟨xs ++ cs, by simpa using hown', ?_⟩ hb' hg
  exact Tr.Ats.stay (stays_grown hg.1) (notOwn_grown hg.2) _ _ (h2.app (Tr.Ats.one hd))
/-- append of a whole slice, with its data -/
theorem wpList_appsT {P : Program} {w : World} {ops : Array Oper} {rest : List Oper} {o : Oper} {a : Act} {Q : Exit → Act → World → Prop} {t e : TypeId} {z : Value} {m bytes : Nat} (E : ElemT P t e z m bytes)
    (hgd : o.guard = none) (s x : Operand) (ho : o.op = .call { callee := .builtin .append, args := #[s, x], argTypes := #[t, t] })
    (B base : Nat) (w0 : World) (v : Value) (es : List Tr) (hs : a.eval s = v) (hown : OwnSeq w base e m es v)
    (src : Value) (ds : List Tr) (hx : a.eval x = src) (hw : Tr.Wide m ds) (hsrc : SeqX w (NotOwn v) ds src)
    (hn : es.length + ds.length ≤ 100000000000) (hB : Below B w0 w) (hBb : B ≤ base) (hbase : base ≤ w.heap.size)
    (h : ∀ v' w', OwnSeq w' base e m (es ++ ds) v' → Below B w0 w' → (w.grownBy w' v.ownBlock ∧ (v'.ownBlock = v.ownBlock ∨ v'.ownBlock = some w.heap.size)) → wpList P ops Q rest (a.put o.dst v') w') : wpList P ops Q (o :: rest) a w := by
  obtain ⟨xs, h1, h2⟩ := hown
  obtain ⟨mem, h3, h4⟩ := hsrc.src hw
  refine wpList_apps E hgd s x ho B base w0 v es.length xs hs h1 src ds.length mem hx h4 (Tr.Ats.one' ds mem h3) hn hB hBb hbase (fun v' w' hown' hb' hg => ?_)
  refine h v' w' ⟨xs ++ mem, by simpa using hown', ?_⟩ hb' hg
  exact Tr.Ats.stay (stays_grown hg.1) (notOwn_grown hg.2) _ _ (h2.app h3)
/-- data that lay before a block was made do not lie in it -/
theorem SeqX.before {w w' : World} {X : Nat → Prop} {es : List Tr} {v : Value} (h : SeqX w X es v) (hb : Below w.heap.size w w') (u : Value) (hu : ∀ k, u.ownBlock = some k → w.heap.size ≤ k) : SeqX w' (NotOwn u) es v :=
  h.stay (Stays.below hb X) (fun b _ hlt e => by have := hu b e; omega)
theorem Tr.At.before {w w' : World} {X : Nat → Prop} {t : Tr} {cs : List Value} (h : Tr.At w X t cs) (hb : Below w.heap.size w w') (u : Value) (hu : ∀ k, u.ownBlock = some k → w.heap.size ≤ k) : Tr.At w' (NotOwn u) t cs :=
  Tr.At.stay (Stays.below hb X) (fun b _ hlt e => by have := hu b e; omega) _ _ h
end Go.Proofs.Ytecpnlhjjmcllaa
