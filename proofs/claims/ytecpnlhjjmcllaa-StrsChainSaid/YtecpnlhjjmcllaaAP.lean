/- The append of one element to a slice of the call's own, in one law: what is owned behind it, and that nothing below B has turned. -/
import Derived.Test.YtecpnlhjjmcllaaSL
import Derived.Maps.AppendAt
import Derived.Laws.AppendOwnNone
namespace Go.Proofs.Ytecpnlhjjmcllaa
open Go.RowKit
/-- a slice type t of elements e: its zero value, its cells, its bytes -/
structure ElemT (P : Program) (t e : TypeId) (z : Value) (size bytes : Nat) : Prop where
  und : P.underlying t = some (.slice e)
  info : (P.info? e).map (fun i => (i.zero, i.size, i.bytes)) = some (some z, size, bytes)
  zs : z.cells.size = size
  pos : 0 < size
  small : bytes ≤ 1024
theorem one_int (k : IntKind) (n : Int) : ∀ u ∈ [Value.int k n], u.oneCell' = true := by intro u hu; simp at hu; subst hu; rfl
theorem one_string (s : ByteArray) : ∀ u ∈ [Value.string s], u.oneCell' = true := by intro u hu; simp at hu; subst hu; rfl
theorem one_bool (b : Bool) : ∀ u ∈ [Value.bool b], u.oneCell' = true := by intro u hu; simp at hu; subst hu; rfl
theorem own_block_ge {w : World} {base : Nat} {e : TypeId} {size : Nat} {v : Value} {n : Nat} {xs : List Value} (h : w.ownsRow base e size v n xs) : ∀ k, v.ownBlock = some k → base ≤ k := by
  intro k hk
  rcases h.2 with ⟨rfl, _⟩ | ⟨g, cap, cur, rfl, hg, _⟩
  · simp [Value.ownBlock] at hk
  · simp [Value.ownBlock] at hk; omega
theorem below_chain {B C : Nat} {a b c : World} (h : Below B a b) (k : Below C b c) (hBC : B ≤ C) : Below B a c := h.trans (k.mono hBC)
theorem bel_trans {a b c : World} (h : Below a.heap.size a b) (k : Below b.heap.size b c) : Below a.heap.size a c := h.trans (k.mono h.size)
theorem own_below {w w' : World} {base : Nat} {e : TypeId} {size : Nat} {v : Value} {n : Nat} {xs : List Value} (h : w.ownsRow base e size v n xs) (hb : Below w.heap.size w w') : w'.ownsRow base e size v n xs := by
  refine ⟨h.1, ?_⟩
  rcases h.2 with ⟨h1, h2⟩ | ⟨g, cap, cur, h1, h2, h3, h4⟩
  · exact Or.inl ⟨h1, h2⟩
  · have hg : g < w.heap.size := by
      rcases Nat.lt_or_ge g w.heap.size with k | k
      · exact k
      · rw [Array.getElem?_eq_none k] at h3; simp at h3
    exact Or.inr ⟨g, cap, cur, h1, h2, (hb.block g hg).trans h3, h4⟩
/-- two values that own no block together -/
def Apart (a b : Value) : Prop := a.ownBlock = none ∨ b.ownBlock = none ∨ a.ownBlock ≠ b.ownBlock
theorem Apart.symm {a b : Value} (h : Apart a b) : Apart b a := by
  rcases h with h | h | h
  · exact Or.inr (Or.inl h)
  · exact Or.inl h
  · exact Or.inr (Or.inr (fun e => h e.symm))
theorem Apart.nil_left (b : Value) : Apart (.slice none 0 0) b := Or.inl rfl
theorem own_block_lt {w : World} {base : Nat} {e : TypeId} {size : Nat} {v : Value} {n : Nat} {xs : List Value} (h : w.ownsRow base e size v n xs) : ∀ k, v.ownBlock = some k → k < w.heap.size := by
  intro k hk
  rcases h.2 with ⟨rfl, _⟩ | ⟨g, cap, cur, rfl, hg, h3, _⟩
  · simp [Value.ownBlock] at hk
  · simp [Value.ownBlock] at hk
    subst hk
    rcases Nat.lt_or_ge g w.heap.size with k | k
    · exact k
    · rw [Array.getElem?_eq_none k] at h3; simp at h3
theorem Apart.grow {w : World} {base : Nat} {e : TypeId} {size : Nat} {a a' b : Value} {n : Nat} {xs : List Value} (h : Apart a b) (hb : w.ownsRow base e size b n xs) (ha : a'.ownBlock = a.ownBlock ∨ a'.ownBlock = some w.heap.size) : Apart a' b := by
  rcases ha with ha | ha
  · unfold Apart; rw [ha]; exact h
  · cases hbb : b.ownBlock with
    | none => exact Or.inr (Or.inl hbb)
    | some k =>
      have := own_block_lt hb k hbb
      exact Or.inr (Or.inr (by rw [ha, hbb]; intro e; simp at e; omega))
theorem Apart.kept {w w' : World} {base : Nat} {e : TypeId} {size : Nat} {a b : Value} {n : Nat} {xs : List Value} (h : Apart a b) (hb : w.ownsRow base e size b n xs) (hg : w.grownBy w' a.ownBlock) : w'.ownsRow base e size b n xs := by
  rcases h with h | h | h
  · refine hb.kept hg ?_
    cases hbb : b.ownBlock with
    | none => exact Or.inl rfl
    | some k => rw [h]; exact Or.inr (by simp)
  · exact hb.kept hg (Or.inl h)
  · exact hb.kept hg (Or.inr (fun e => h e.symm))
theorem wpList_app {P : Program} {w : World} {ops : Array Oper} {rest : List Oper} {o : Oper} {a : Act} {Q : Exit → Act → World → Prop} {t e : TypeId} {z : Value} {size bytes : Nat} (E : ElemT P t e z size bytes)
    (hgd : o.guard = none) (s x : Operand) (ho : o.op = .call { callee := .builtin .append, args := #[s, x], argTypes := #[t, t] })
    (B base : Nat) (w0 : World) (v : Value) (n : Nat) (xs : List Value) (hs : a.eval s = v) (hown : w.ownsRow base e size v n xs)
    (g : Nat) (news : List Value) (hx : a.eval x = .slice (some ⟨g, 0, none⟩) 1 1) (hl : news.length = size) (hnews : ∀ j u, news[j]? = some u → w.cell? ⟨g, j, none⟩ = some u) (h1 : ∀ u ∈ news, u.oneCell' = true)
    (hn : n ≤ 100000000000) (hB : Below B w0 w) (hBb : B ≤ base) (hbase : base ≤ w.heap.size)
    (h : ∀ v' w', w'.ownsRow base e size v' (n + 1) (xs ++ news) → Below B w0 w' → (w.grownBy w' v.ownBlock ∧ (v'.ownBlock = v.ownBlock ∨ v'.ownBlock = some w.heap.size)) → wpList P ops Q rest (a.put o.dst v') w') : wpList P ops Q (o :: rest) a w := by
  obtain ⟨i, hi, hz0, hz1, hz2⟩ := info_parts E.info
  refine wpList_append_own_at w hgd s x t ho base e i z size bytes E.und hi hz0 hz1 hz2 E.zs E.pos v n xs hs hown ⟨g, 0, none⟩ 1 1 news hx (by rw [Nat.one_mul]; exact hl) ?_ h1 (by unfold maxLen; omega) ?_ hbase ?_
  · intro j u hj
    have hh := hnews j u hj
    have e : (⟨g, 0, none⟩ : Addr).add j = ⟨g, j, none⟩ := by unfold Addr.add; split <;> simp_all
    rw [e]; exact hh
  · have := E.small
    calc (n + 1) * bytes ≤ 100000000001 * 1024 := Nat.mul_le_mul (by omega) this
      _ ≤ 140737488355328 := by decide
  · intro v' w' hown' hg _ hblk
    exact h v' w' hown' (hB.grown hg (by omega) (fun k hk => Nat.le_trans hBb (own_block_ge hown k hk))) ⟨hg, hblk⟩
theorem own_mono {w : World} {base base' : Nat} {e : TypeId} {size : Nat} {v : Value} {n : Nat} {xs : List Value} (h : w.ownsRow base e size v n xs) (hb : base' ≤ base) : w.ownsRow base' e size v n xs := by
  refine ⟨h.1, ?_⟩
  rcases h.2 with h | ⟨g, cap, cur, h1, h2, h3⟩
  · exact Or.inl h
  · exact Or.inr ⟨g, cap, cur, h1, Nat.le_trans hb h2, h3⟩
/-- what is appended whole: nil, or so many elements at an address -/
def Src (w : World) (size : Nat) (src : Value) (m : Nat) (news : List Value) : Prop :=
  (src = .slice none 0 0 ∧ m = 0 ∧ news = []) ∨ ∃ ad c, src = .slice (some ad) m c ∧ news.length = m * size ∧ ∀ j u, news[j]? = some u → w.cell? (ad.add j) = some u
theorem addr_add (b off j : Nat) : (⟨b, off, none⟩ : Addr).add j = ⟨b, off + j, none⟩ := by
  unfold Addr.add; split <;> simp_all
theorem Src.of_own {w : World} {base : Nat} {e : TypeId} {size : Nat} {v : Value} {n : Nat} {xs : List Value} (h : w.ownsRow base e size v n xs) : Src w size v n xs := by
  have h' := h
  rcases h.2 with ⟨rfl, rfl⟩ | ⟨g, cap, cur, rfl, _⟩
  · refine Or.inl ⟨rfl, rfl, ?_⟩
    have := h.1
    simpa using this
  · refine Or.inr ⟨_, _, rfl, h.1, fun j u hj => ?_⟩
    rw [addr_add, Nat.zero_add, h'.cellAt j]
    · exact hj
    · have : j < xs.length := by
        rcases Nat.lt_or_ge j xs.length with k | k
        · exact k
        · rw [List.getElem?_eq_none k] at hj; simp at hj
      rw [← h.1]; exact this
theorem wpList_apps {P : Program} {w : World} {ops : Array Oper} {rest : List Oper} {o : Oper} {a : Act} {Q : Exit → Act → World → Prop} {t e : TypeId} {z : Value} {size bytes : Nat} (E : ElemT P t e z size bytes)
    (hgd : o.guard = none) (s x : Operand) (ho : o.op = .call { callee := .builtin .append, args := #[s, x], argTypes := #[t, t] })
    (B base : Nat) (w0 : World) (v : Value) (n : Nat) (xs : List Value) (hs : a.eval s = v) (hown : w.ownsRow base e size v n xs)
    (src : Value) (m : Nat) (news : List Value) (hx : a.eval x = src) (hsrc : Src w size src m news) (h1 : ∀ u ∈ news, u.oneCell' = true)
    (hn : n + m ≤ 100000000000) (hB : Below B w0 w) (hBb : B ≤ base) (hbase : base ≤ w.heap.size)
    (h : ∀ v' w', w'.ownsRow base e size v' (n + m) (xs ++ news) → Below B w0 w' → (w.grownBy w' v.ownBlock ∧ (v'.ownBlock = v.ownBlock ∨ v'.ownBlock = some w.heap.size)) → wpList P ops Q rest (a.put o.dst v') w') : wpList P ops Q (o :: rest) a w := by
  obtain ⟨i, hi, hz0, hz1, hz2⟩ := info_parts E.info
  rcases hsrc with ⟨rfl, rfl, rfl⟩ | ⟨ad, c, rfl, hl, hnews⟩
  · refine wpList_append_own_none hgd s x t ho base e i size E.und hi v n xs hs hown hx ?_
    exact h v w (by simpa using hown) hB ⟨World.grownBy.refl _ _, Or.inl rfl⟩
  · refine wpList_append_own_at w hgd s x t ho base e i z size bytes E.und hi hz0 hz1 hz2 E.zs E.pos v n xs hs hown ad m c news hx hl hnews h1 (by unfold maxLen; omega) ?_ hbase ?_
    · have := E.small
      calc (n + m) * bytes ≤ 100000000000 * 1024 := Nat.mul_le_mul (by omega) this
        _ ≤ 140737488355328 := by decide
    · intro v' w' hown' hg _ hblk
      exact h v' w' hown' (hB.grown hg (by omega) (fun k hk => Nat.le_trans hBb (own_block_ge hown k hk))) ⟨hg, hblk⟩
end Go.Proofs.Ytecpnlhjjmcllaa
