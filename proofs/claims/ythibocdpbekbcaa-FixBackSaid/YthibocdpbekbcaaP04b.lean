/- Plain: operators applied in order join groups of operands; no operand would need brackets. -/
import Derived.Test.YthibocdpbekbcaaP04p
namespace Go.Proofs.Ythibocdpbekbcaa
def needs (a b : Nat) (r : Bool) : Bool := if a = b then (if r then sideN a != 2 else sideN a != 1) else decide (b < a)
/-- of each operand which operator made its group; where its group ends, or begins -/
structure Gr where
  top : Nat → Int
  last : Nat → Int
/-- where the group that ends at operand i begins -/
def Gr.from (g : Gr) (i : Nat) : Nat := if g.last i < (i : Int) then (g.last i).toNat else i
def Gr.step (g : Gr) (i : Nat) : Gr :=
  { top := fun k => if k = g.from i then (i : Int) else g.top k
    last := fun k => if k = g.from i then g.last (i + 1) else if g.from i < k ∧ (k : Int) ≤ g.last (i + 1) then (g.from i : Int) else g.last k }
def Gr.run (g : Gr) (l : List Nat) : Gr := l.foldl Gr.step g
/-- what the law asks at each step -/
structure StepOk (n : Nat) (L : Nat → Nat) (g : Gr) (i : Nat) : Prop where
  inr : i < n
  lft : g.from i ≤ i
  alone : g.last (g.from i) = (i : Int)
  back : g.from i < i → g.last i = (g.from i : Int)
  self : g.from i = i → g.last i = (i : Int)
  far : ((i + 1 : Nat) : Int) ≤ g.last (i + 1)
  farn : g.last (i + 1) ≤ (n : Int)
  topl : g.top (g.from i) = -1 ∨ ∃ t : Nat, t < n ∧ t ≠ i ∧ g.top (g.from i) = (t : Int) ∧ needs (L i) (L t) false = false
  topr : g.top (i + 1) = -1 ∨ ∃ t : Nat, t < n ∧ g.top (i + 1) = (t : Int) ∧ needs (L i) (L t) true = false
section
variable (L : Nat → Nat)
theorem root_left (a : Nat) : ∀ d j, a ≤ j → j < rootTo L a d → Left1 L (rootTo L a d) j
  | 0, j, h1, h2 => by simp [rootTo] at h2; omega
  | d + 1, j, h1, h2 => by
    have hr := rootTo_in L a d
    rw [rootTo] at h2 ⊢
    split at h2
    · rename_i hc
      rw [if_pos hc]
      by_cases e : j < rootTo L a d
      · rcases root_left a d j h1 e with k | ⟨k, k'⟩
        · rcases hc with m | ⟨m, m'⟩
          · exact Or.inl (by omega)
          · exact Or.inl (by omega)
        · rcases hc with m | ⟨m, m'⟩
          · exact Or.inl (by omega)
          · exact Or.inr ⟨by omega, by rw [m]; exact m'⟩
      · -- j at the old root or behind it
        have hge := root_ge a d j (by omega) (by omega)
        rcases hc with m | ⟨m, m'⟩
        · exact Or.inl (by omega)
        · by_cases e2 : L (a + 1 + d) = L j
          · exact Or.inr ⟨e2, by rw [m]; exact m'⟩
          · exact Or.inl (by omega)
    · rename_i hc
      rw [if_neg hc]
      exact root_left a d j h1 h2
where
  root_ge (a d j : Nat) (h1 : rootTo L a d ≤ j) (h2 : j ≤ a + d) : L (rootTo L a d) ≤ L j := by
    induction d generalizing j with
    | zero => simp [rootTo] at h1 ⊢; have : j = a := by omega
              subst this; exact Nat.le_refl _
    | succ d ih =>
      have hr := rootTo_in L a d
      rw [rootTo] at h1 ⊢
      split at h1
      · rename_i hc
        rw [if_pos hc]
        have : j = a + 1 + d := by omega
        subst this; exact Nat.le_refl _
      · rename_i hc
        rw [if_neg hc]
        by_cases e : j ≤ a + d
        · exact ih j h1 e
        · have : j = a + 1 + d := by omega
          subst this; omega
theorem root_right (a : Nat) : ∀ d j, rootTo L a d < j → j ≤ a + d → L (rootTo L a d) < L j ∨ (L (rootTo L a d) = L j ∧ sideN (L (rootTo L a d)) ≠ 1)
  | 0, j, h1, h2 => by simp [rootTo] at h1; omega
  | d + 1, j, h1, h2 => by
    have hr := rootTo_in L a d
    rw [rootTo] at h1 ⊢
    split at h1
    · omega
    · rename_i hc
      rw [if_neg hc]
      by_cases e : j ≤ a + d
      · exact root_right a d j h1 e
      · have : j = a + 1 + d := by omega
        subst this
        by_cases e2 : L (rootTo L a d) = L (a + 1 + d)
        · exact Or.inr ⟨e2, fun hs => hc (Or.inr ⟨e2.symm, hs⟩)⟩
        · exact Or.inl (by omega)
theorem first_four (r : Nat) : ∀ (j : Nat), r < j → L j = 4 → (∀ m, r < m → m < j → 4 ≤ L m) → L r = 4 → ∃ k, r < k ∧ k ≤ j ∧ clashAt L k := by
  intro j
  induction j using Nat.strongRecOn with
  | ind j ih =>
    intro hj h4 hge hr
    by_cases h : ∃ m, r < m ∧ m < j ∧ L m = 4
    · obtain ⟨m, m1, m2, m3⟩ := h
      obtain ⟨k, k1, k2, k3⟩ := ih m m2 m1 m3 (fun x x1 x2 => hge x x1 (by omega)) hr
      exact ⟨k, k1, by omega, k3⟩
    · refine ⟨j, hj, Nat.le_refl _, h4, r, hj, hr, fun m m1 m2 => ?_⟩
      have := hge m m1 m2
      rcases Nat.lt_or_ge 4 (L m) with q | q
      · exact q
      · exact absurd ⟨m, m1, m2, by omega⟩ h
theorem root_right2 (n a d : Nat) (hn : a + d < n) (hc : ∀ j, j < n → ¬ clashAt L j) (j : Nat) (h1 : rootTo L a d < j) (h2 : j ≤ a + d) : Right2 L (rootTo L a d) j := by
  rcases root_right L a d j h1 h2 with k | ⟨k, k'⟩
  · exact Or.inl k
  · by_cases h0 : sideN (L (rootTo L a d)) = 0
    · exfalso
      have h4 := sideN_0 h0
      obtain ⟨m, m1, m2, m3⟩ := first_four L (rootTo L a d) j h1 (by omega) (fun x x1 x2 => by
        rcases root_right L a d x x1 (by omega) with q | ⟨q, _⟩ <;> omega) h4
      exact hc m (by omega) m3
    · have := sideN_le (L (rootTo L a d))
      exact Or.inr ⟨k, by omega⟩
theorem needs_left {r j : Nat} (h : Left1 L r j) : needs (L r) (L j) false = false := by
  unfold needs
  rcases h with h | ⟨h, h'⟩
  · rw [if_neg (by omega)]; simp; omega
  · rw [if_pos h]; simp [h']
theorem needs_right {r j : Nat} (h : Right2 L r j) : needs (L r) (L j) true = false := by
  unfold needs
  rcases h with h | ⟨h, h'⟩
  · rw [if_neg (by omega)]; simp; omega
  · rw [if_pos h]; simp [h']
theorem run_app (g : Gr) (l m : List Nat) : g.run (l ++ m) = (g.run l).run m := by simp [Gr.run, List.foldl_append]
/-- all steps of a list are as the law asks -/
def AllOk (n : Nat) (g : Gr) (l : List Nat) : Prop := ∀ k (h : k < l.length), StepOk n L (g.run (l.take k)) l[k]
theorem AllOk.app {n : Nat} {g : Gr} {l m : List Nat} (h1 : AllOk L n g l) (h2 : AllOk L n (g.run l) m) : AllOk L n g (l ++ m) := by
  intro k hk
  by_cases e : k < l.length
  · rw [List.take_append_of_le_length (by omega), List.getElem_append_left e]
    exact h1 k e
  · have hk' : k - l.length < m.length := by simp at hk; omega
    rw [List.getElem_append_right (by omega), List.take_append, List.take_of_length_le (by omega), run_app]
    exact h2 (k - l.length) hk'
theorem AllOk.one {n : Nat} {g : Gr} {i : Nat} (h : StepOk n L g i) : AllOk L n g [i] := by
  intro k hk
  have : k = 0 := by simp at hk; omega
  subst this
  exact h
theorem seg (n : Nat) (hc : ∀ j, j < n → ¬ clashAt L j) : ∀ (d A B : Nat) (g : Gr), B - A ≤ d → A ≤ B → B ≤ n → (∀ j, A ≤ j → j ≤ B → g.last j = (j : Int) ∧ g.top j = -1) →
    AllOk L n g (ord L A B) ∧ (g.run (ord L A B)).last A = (B : Int) ∧ (∀ k, A < k → k ≤ B → (g.run (ord L A B)).last k = (A : Int)) ∧
    (∀ k, k < A ∨ B < k → (g.run (ord L A B)).last k = g.last k ∧ (g.run (ord L A B)).top k = g.top k) ∧
    ((A = B ∧ (g.run (ord L A B)).top A = -1) ∨ (A < B ∧ (g.run (ord L A B)).top A = (rootTo L A (B - A - 1) : Int))) := by
  intro d
  induction d with
  | zero =>
    intro A B g hd hAB hB hs
    have e : A = B := by omega
    subst e
    rw [ord_nil]
    refine ⟨fun k hk => by simp at hk, (hs A (by omega) (by omega)).1, fun k h1 h2 => by omega, fun k _ => ⟨rfl, rfl⟩, Or.inl ⟨rfl, (hs A (by omega) (by omega)).2⟩⟩
  | succ d ih =>
    intro A B g hd hAB hB hs
    by_cases e : A = B
    · subst e
      rw [ord_nil]
      refine ⟨fun k hk => by simp at hk, (hs A (by omega) (by omega)).1, fun k h1 h2 => by omega, fun k _ => ⟨rfl, rfl⟩, Or.inl ⟨rfl, (hs A (by omega) (by omega)).2⟩⟩
    · have hr := rootTo_in L A (B - A - 1)
      have hord := ord_root L A B (by omega)
      have hrl := root_left L A (B - A - 1)
      have hrr := root_right2 L n A (B - A - 1) (by omega) hc
      obtain ⟨r, hrdef⟩ : ∃ r, r = rootTo L A (B - A - 1) := ⟨_, rfl⟩
      rw [← hrdef] at hr hord hrl hrr ⊢
      rw [hord]
      obtain ⟨a1, a2, a3, a4, a5⟩ := ih A r g (by omega) (by omega) (by omega) (fun j h1 h2 => hs j h1 (by omega))
      have hs2 : ∀ j, r + 1 ≤ j → j ≤ B → (g.run (ord L A r)).last j = (j : Int) ∧ (g.run (ord L A r)).top j = -1 := fun j h1 h2 => by
        obtain ⟨q1, q2⟩ := a4 j (Or.inr (by omega))
        rw [q1, q2]; exact hs j (by omega) h2
      obtain ⟨b1, b2, b3, b4, b5⟩ := ih (r + 1) B (g.run (ord L A r)) (by omega) (by omega) (by omega) hs2
      have hg2 : g.run (ord L A r ++ ord L (r + 1) B) = (g.run (ord L A r)).run (ord L (r + 1) B) := run_app _ _ _
      obtain ⟨G, hG⟩ : ∃ G, G = (g.run (ord L A r)).run (ord L (r + 1) B) := ⟨_, rfl⟩
      rw [← hG] at b2 b3 b4 b5
      have gA : G.last A = (r : Int) := by rw [(b4 A (Or.inl (by omega))).1]; exact a2
      have gr : A < r → G.last r = (A : Int) := fun h => by rw [(b4 r (Or.inl (by omega))).1]; exact a3 r h (by omega)
      have hfrom : G.from r = A := by
        unfold Gr.from
        by_cases h : A = r
        · subst h; rw [gA, if_neg (by omega)]
        · rw [gr (by omega), if_pos (by omega)]; simp
      have hok : StepOk n L G r := by
        refine ⟨by omega, by rw [hfrom]; omega, by rw [hfrom]; exact gA, ?_, ?_, by rw [b2]; omega, by rw [b2]; omega, ?_, ?_⟩
        · rw [hfrom]; exact gr
        · rw [hfrom]; intro h; subst h; exact gA
        · rw [hfrom, (b4 A (Or.inl (by omega))).2]
          rcases a5 with ⟨q, q'⟩ | ⟨q, q'⟩
          · exact Or.inl q'
          · have hq := rootTo_in L A (r - A - 1)
            exact Or.inr ⟨_, by omega, by omega, q', needs_left L (hrl _ (by omega) (by omega))⟩
        · rcases b5 with ⟨q, q'⟩ | ⟨q, q'⟩
          · exact Or.inl q'
          · have hq := rootTo_in L (r + 1) (B - (r + 1) - 1)
            exact Or.inr ⟨_, by omega, q', needs_right L (hrr _ (by omega) (by omega))⟩
      have hrunG : g.run (ord L A r ++ ord L (r + 1) B ++ [r]) = G.step r := by rw [run_app, hg2, ← hG]; rfl
      refine ⟨(a1.app L b1).app L (AllOk.one L (by rw [hg2, ← hG]; exact hok)), ?_, ?_, ?_, Or.inr ⟨by omega, ?_⟩⟩
      · rw [hrunG]; unfold Gr.step; simp only [hfrom, if_pos]; exact b2
      · intro k k1 k2
        rw [hrunG]; unfold Gr.step; simp only [hfrom]
        rw [if_neg (by omega), if_pos ⟨k1, by rw [b2]; omega⟩]
      · intro k hk
        rw [hrunG]; unfold Gr.step; simp only [hfrom]
        rw [if_neg (by omega), if_neg (by rw [b2]; omega), if_neg (by omega)]
        obtain ⟨q1, q2⟩ := b4 k (by omega)
        obtain ⟨q3, q4⟩ := a4 k (by omega)
        exact ⟨q1.trans q3, q2.trans q4⟩
      · rw [hrunG]; unfold Gr.step; simp only [hfrom, if_pos]
end
end Go.Proofs.Ythibocdpbekbcaa
