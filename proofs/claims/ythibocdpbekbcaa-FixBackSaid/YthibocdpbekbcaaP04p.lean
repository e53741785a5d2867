/- Plain: the stack's order is the order by the loosest operator; it clashes where two operators without a side meet. -/
import Derived.Test.YthibocdpbekbcaaP04o
namespace Go.Proofs.Ythibocdpbekbcaa
section
variable (L : Nat → Nat)
/-- the operator that is applied last among those from a on, d more of them looked at -/
def rootTo (a : Nat) : Nat → Nat
  | 0 => a
  | d + 1 => if L (a + 1 + d) < L (rootTo a d) ∨ (L (a + 1 + d) = L (rootTo a d) ∧ sideN (L (rootTo a d)) = 1) then a + 1 + d else rootTo a d
/-- the order of those from a on, below b -/
def ordR : Nat → Nat → Nat → List Nat
  | 0, _, _ => []
  | f + 1, a, b => if a = b then [] else ordR f a (rootTo L a (b - a - 1)) ++ ordR f (rootTo L a (b - a - 1) + 1) b ++ [rootTo L a (b - a - 1)]
theorem rootTo_in (a : Nat) : ∀ d, a ≤ rootTo L a d ∧ rootTo L a d ≤ a + d
  | 0 => by simp [rootTo]
  | d + 1 => by
    have := rootTo_in a d
    rw [rootTo]
    split <;> omega
theorem ordR_fuel : ∀ (f g a b : Nat), a ≤ b → b - a ≤ f → b - a ≤ g → ordR L f a b = ordR L g a b
  | 0, 0, _, _, _, _, _ => rfl
  | 0, g + 1, a, b, h, h1, _ => by rw [ordR, ordR, if_pos (by omega)]
  | f + 1, 0, a, b, h, _, h2 => by rw [ordR, ordR, if_pos (by omega)]
  | f + 1, g + 1, a, b, h, h1, h2 => by
    rw [ordR, ordR]
    split
    · rfl
    · have := rootTo_in L a (b - a - 1)
      rw [ordR_fuel f g a (rootTo L a (b - a - 1)) (by omega) (by omega) (by omega), ordR_fuel f g (rootTo L a (b - a - 1) + 1) b (by omega) (by omega) (by omega)]
def ord (a b : Nat) : List Nat := ordR L (b - a) a b
theorem ord_nil (a : Nat) : ord L a a = [] := by simp [ord, ordR]
theorem ord_root (a b : Nat) (h : a < b) : ord L a b = ord L a (rootTo L a (b - a - 1)) ++ ord L (rootTo L a (b - a - 1) + 1) b ++ [rootTo L a (b - a - 1)] := by
  have hr := rootTo_in L a (b - a - 1)
  unfold ord
  obtain ⟨f, hf⟩ : ∃ f, b - a = f + 1 := ⟨b - a - 1, by omega⟩
  rw [hf, ordR, if_neg (by omega)]
  rw [show f + 1 - 1 = b - a - 1 from by omega] at *
  rw [ordR_fuel L f (rootTo L a (b - a - 1) - a) a _ (by omega) (by omega) (by omega), ordR_fuel L f (b - (rootTo L a (b - a - 1) + 1)) _ b (by omega) (by omega) (by omega)]
/-- t is looser than those ahead of it, and than those behind it -/
def Left1 (t j : Nat) : Prop := L t < L j ∨ (L t = L j ∧ sideN (L t) = 1)
def Right2 (t j : Nat) : Prop := L t < L j ∨ (L t = L j ∧ sideN (L t) = 2)
theorem rootTo_before (a t : Nat) (h1 : ∀ j, a ≤ j → j < t → Left1 L t j) : ∀ d, a + d = t → rootTo L a d = t
  | 0, h => by simp [rootTo]; omega
  | d + 1, h => by
    have hr := rootTo_in L a d
    rw [rootTo]
    have := h1 (rootTo L a d) (by omega) (by omega)
    rw [if_pos]
    · omega
    · rw [show a + 1 + d = t from by omega]
      rcases this with k | ⟨k1, k2⟩
      · exact Or.inl k
      · exact Or.inr ⟨k1, by rw [← k1]; exact k2⟩
theorem rootTo_after (a t e : Nat) (h1 : ∀ j, a ≤ j → j < t → Left1 L t j) (ha : a ≤ t) (h2 : ∀ j, t < j → j < e → Right2 L t j) : ∀ d, t ≤ a + d → a + d < e → rootTo L a d = t
  | 0, h, _ => rootTo_before L a t h1 0 (by omega)
  | d + 1, h, he => by
    by_cases k : a + (d + 1) = t
    · exact rootTo_before L a t h1 (d + 1) k
    · have ih := rootTo_after a t e h1 ha h2 d (by omega) (by omega)
      rw [rootTo, ih, if_neg]
      have := h2 (a + 1 + d) (by omega) (by omega)
      rintro (k1 | ⟨k1, k2⟩)
      · rcases this with k3 | ⟨k3, _⟩ <;> omega
      · rcases this with k3 | ⟨_, k4⟩
        · omega
        · omega
theorem ord_at (a t e : Nat) (ha : a ≤ t) (he : t < e) (h1 : ∀ j, a ≤ j → j < t → Left1 L t j) (h2 : ∀ j, t < j → j < e → Right2 L t j) : ord L a e = ord L a t ++ ord L (t + 1) e ++ [t] := by
  have hr := rootTo_after L a t e h1 ha h2 (e - a - 1) (by omega) (by omega)
  have := ord_root L a e (by omega)
  rw [hr] at this
  exact this
def nxt : List Nat → Nat
  | [] => 0
  | t :: _ => t + 1
def pre : List Nat → List Nat
  | [] => []
  | t :: st => pre st ++ ord L (nxt st) t
/-- what a stack (its top first) that covers those below e must have put out, and how it must be -/
structure Inv (e : Nat) (st out : List Nat) : Prop where
  out : out = pre L st ++ ord L (nxt st) e
  below : ∀ t ∈ st, t < e
theorem sideN_0 {l : Nat} (h : sideN l = 0) : l = 4 := by
  unfold sideN at h
  split at h
  · assumption
  · split at h <;> omega
/-- the stack's own order -/
def I1 : List Nat → Prop
  | [] => True
  | t :: st => nxt st ≤ t ∧ (∀ j, nxt st ≤ j → j < t → Left1 L t j) ∧ I1 st
def I2 (e : Nat) (st : List Nat) : Prop := ∀ t ∈ st, ∀ j, t < j → j < e → Right2 L t j
def Dn (lv e : Nat) (st : List Nat) : Prop := ∀ j, nxt st ≤ j → j < e → lv < L j ∨ (lv = L j ∧ sideN lv = 1)
theorem pop_out (e t : Nat) (st out : List Nat) (he : t < e) (h1 : I1 L (t :: st)) (h2 : I2 L e (t :: st)) (ho : out = pre L (t :: st) ++ ord L (t + 1) e) : out ++ [t] = pre L st ++ ord L (nxt st) e := by
  rw [ho, ord_at L (nxt st) t e h1.1 he h1.2.1 (h2 t (by simp)), pre]
  simp
theorem down_inv (e : Nat) : ∀ (st out : List Nat), I1 L st → I2 L e st → Dn L (L e) e st → (∀ t ∈ st, t < e) → out = pre L st ++ ord L (nxt st) e →
    (∀ st' out', downF L (L e) st out = some (st', out') → I1 L st' ∧ I2 L e st' ∧ Dn L (L e) e st' ∧ (∀ t ∈ st', t < e) ∧ out' = pre L st' ++ ord L (nxt st') e ∧ (∀ t, st'.head? = some t → L t < L e ∨ (L t = L e ∧ sideN (L e) = 2))) ∧
    (downF L (L e) st out = none → ∃ t, t < e ∧ L t = 4 ∧ L e = 4 ∧ ∀ j, t < j → j < e → 4 < L j)
  | [], out, h1, h2, hd, hb, ho => by
    constructor
    · intro st' out' h
      simp [downF] at h
      obtain ⟨rfl, rfl⟩ := h
      exact ⟨h1, h2, hd, hb, ho, by simp⟩
    · simp [downF]
  | t :: st, out, h1, h2, hd, hb, ho => by
    by_cases hs : L t < L e ∨ (L t = L e ∧ sideN (L e) = 2)
    · rw [downF_stop hs]
      constructor
      · intro st' out' h
        simp at h
        obtain ⟨rfl, rfl⟩ := h
        exact ⟨h1, h2, hd, hb, ho, by simp; exact hs⟩
      · simp
    · by_cases hc : L t = L e ∧ sideN (L e) = 0
      · rw [downF_clash hs hc]
        have h4 := sideN_0 hc.2
        refine ⟨by simp, fun _ => ⟨t, hb t (by simp), by omega, h4, fun j k1 k2 => ?_⟩⟩
        rcases hd j (by simp [nxt]; omega) k2 with k | ⟨_, k⟩
        · omega
        · rw [hc.2] at k; omega
      · rw [downF_pop hs hc]
        have hpop : L e < L t ∨ (L e = L t ∧ sideN (L e) = 1) := by
          have := sideN_le (L e)
          omega
        have hlt := hb t (by simp)
        refine down_inv e st (out ++ [t]) h1.2.2 (fun u hu => h2 u (by simp [hu])) ?_ (fun u hu => hb u (by simp [hu])) (pop_out L e t st out hlt h1 h2 ho)
        intro j k1 k2
        by_cases k3 : j < t
        · rcases h1.2.1 j k1 k3 with k | ⟨k, k'⟩
          · rcases hpop with m | ⟨m, m'⟩ <;> omega
          · rcases hpop with m | ⟨m, m'⟩
            · exact Or.inl (by omega)
            · exact Or.inr ⟨by omega, m'⟩
        · by_cases k4 : j = t
          · subst k4; exact hpop
          · exact hd j (by simp [nxt]; omega) k2
/-- where an operator clashes -/
def clashAt (k : Nat) : Prop := L k = 4 ∧ ∃ i, i < k ∧ L i = 4 ∧ ∀ j, i < j → j < k → 4 < L j
theorem run_inv : ∀ (k : Nat) {st out : List Nat}, runTo L k = some (st, out) → I1 L st ∧ I2 L k st ∧ (∀ t ∈ st, t < k) ∧ out = pre L st ∧ nxt st = k ∧ ∀ j, j < k → ¬ clashAt L j
  | 0, st, out, h => by
    simp [runTo] at h
    obtain ⟨rfl, rfl⟩ := h
    exact ⟨trivial, by simp [I2], by simp, rfl, rfl, by simp⟩
  | k + 1, st, out, h => by
    rw [runTo] at h
    split at h
    · simp at h
    · rename_i st0 out0 h0
      obtain ⟨i1, i2, i3, i4, i5, i6⟩ := run_inv k h0
      split at h
      · simp at h
      · rename_i st1 out1 hd
        simp at h
        obtain ⟨rfl, rfl⟩ := h
        obtain ⟨j1, j2, j3, j4, j5, j6⟩ := (down_inv L k st0 out0 i1 i2 (fun j k1 k2 => by omega) i3 (by rw [i5, ord_nil, List.append_nil]; exact i4)).1 _ _ hd
        refine ⟨⟨?_, ?_, j1⟩, ?_, ?_, j5, rfl, ?_⟩
        · cases st1 with
          | nil => simp [nxt]
          | cons t st1 => have := j4 t (by simp); simp [nxt]; omega
        · exact j3
        · intro t ht j k1 k2
          rcases List.mem_cons.1 ht with rfl | ht2
          · omega
          · by_cases k3 : j < k
            · exact j2 t ht2 j k1 k3
            · have hjk : j = k := by omega
              subst hjk
              cases st1 with
              | nil => simp at ht2
              | cons u st1 =>
                have hu := j6 u rfl
                rcases List.mem_cons.1 ht2 with rfl | ht'
                · rcases hu with m | ⟨m, m'⟩
                  · exact Or.inl m
                  · exact Or.inr ⟨m, by rw [m]; exact m'⟩
                · have hut : t < u := by
                    have hs : ∀ (s : List Nat) (b : Nat), I1 L s → nxt s ≤ b → ∀ x ∈ s, x < b := by
                      intro s
                      induction s with
                      | nil => simp
                      | cons y s ih =>
                        intro b hy hb x hx
                        simp [nxt] at hb
                        rcases List.mem_cons.1 hx with rfl | hx
                        · omega
                        · have := ih y hy.2.2 hy.1 x hx; omega
                    exact hs st1 u j1.2.2 j1.1 t ht'
                  have hr := j2 t (by simp [ht']) u hut (j4 u (by simp))
                  rcases hr with m | ⟨m, m'⟩
                  · rcases hu with q | ⟨q, q'⟩
                    · exact Or.inl (by omega)
                    · exact Or.inl (by omega)
                  · rcases hu with q | ⟨q, q'⟩
                    · exact Or.inl (by omega)
                    · exact Or.inr ⟨by omega, m'⟩
        · intro t ht
          rcases List.mem_cons.1 ht with rfl | ht
          · omega
          · have := j4 t ht; omega
        · intro j hj
          by_cases hjk : j < k
          · exact i6 j hjk
          · have : j = k := by omega
            subst this
            rintro ⟨c1, m, c2, c3, c4⟩
            by_cases hm : nxt st1 ≤ m
            · rcases j3 m hm c2 with q | ⟨_, q⟩
              · omega
              · rw [c1] at q; simp [sideN] at q
            · cases st1 with
              | nil => simp [nxt] at hm
              | cons t st1 =>
                have ht := j6 t rfl
                have hlt : L t < 4 := by
                  rcases ht with q | ⟨_, q⟩
                  · omega
                  · rw [c1] at q; simp [sideN] at q
                simp [nxt] at hm
                by_cases e : m = t
                · subst e; omega
                · have := c4 t (by omega) (j4 t (by simp)); omega
theorem unwind (e : Nat) : ∀ (st : List Nat), I1 L st → I2 L e st → (∀ t ∈ st, t < e) → pre L st ++ ord L (nxt st) e ++ st = ord L 0 e
  | [], _, _, _ => by simp [pre, nxt]
  | t :: st, h1, h2, hb => by
    have hp := pop_out L e t st _ (hb t (by simp)) h1 h2 rfl
    have ih := unwind e st h1.2.2 (fun u hu => h2 u (by simp [hu])) (fun u hu => hb u (by simp [hu]))
    rw [← hp] at ih
    simpa [nxt] using ih
theorem order_ok {n : Nat} {st out : List Nat} (h : runTo L n = some (st, out)) : out ++ st = ord L 0 n ∧ ∀ j, j < n → ¬ clashAt L j := by
  obtain ⟨i1, i2, i3, i4, i5, i6⟩ := run_inv L n h
  refine ⟨?_, i6⟩
  have := unwind L n st i1 i2 i3
  rw [i5, ord_nil, List.append_nil, ← i4] at this
  exact this
theorem order_clash {i : Nat} {st out : List Nat} (h : runTo L i = some (st, out)) (hd : downF L (L i) st out = none) : clashAt L i ∧ ∀ j, j < i → ¬ clashAt L j := by
  obtain ⟨i1, i2, i3, i4, i5, i6⟩ := run_inv L i h
  obtain ⟨t, h1, h2, h3, h4⟩ := (down_inv L i st out i1 i2 (fun j k1 k2 => by omega) i3 (by rw [i5, ord_nil, List.append_nil]; exact i4)).2 hd
  exact ⟨⟨h3, t, h1, h2, h4⟩, i6⟩
end
end Go.Proofs.Ythibocdpbekbcaa
