/- Plain: the order of operators by a stack, its run step by step. -/
import Derived.Test.YthibocdpbekbcaaP04
namespace Go.Proofs.Ythibocdpbekbcaa
/-- what an operator of a level does to the stack (its top first) and to what was put out; none: a clash -/
def downF (L : Nat → Nat) (lv : Nat) : List Nat → List Nat → Option (List Nat × List Nat)
  | [], out => some ([], out)
  | top :: st, out =>
    if L top < lv ∨ (L top = lv ∧ sideN lv = 2) then some (top :: st, out)
    else if L top = lv ∧ sideN lv = 0 then none
    else downF L lv st (out ++ [top])
/-- the run over the first k operators -/
def runTo (L : Nat → Nat) : Nat → Option (List Nat × List Nat)
  | 0 => some ([], [])
  | k + 1 => match runTo L k with
    | none => none
    | some (st, out) => match downF L (L k) st out with
      | none => none
      | some (st', out') => some (k :: st', out')
theorem downF_stop {L : Nat → Nat} {lv top : Nat} {st out : List Nat} (h : L top < lv ∨ (L top = lv ∧ sideN lv = 2)) : downF L lv (top :: st) out = some (top :: st, out) := by
  rw [downF, if_pos h]
theorem downF_clash {L : Nat → Nat} {lv top : Nat} {st out : List Nat} (h : ¬ (L top < lv ∨ (L top = lv ∧ sideN lv = 2))) (h2 : L top = lv ∧ sideN lv = 0) : downF L lv (top :: st) out = none := by
  rw [downF, if_neg h, if_pos h2]
theorem downF_pop {L : Nat → Nat} {lv top : Nat} {st out : List Nat} (h : ¬ (L top < lv ∨ (L top = lv ∧ sideN lv = 2))) (h2 : ¬ (L top = lv ∧ sideN lv = 0)) : downF L lv (top :: st) out = downF L lv st (out ++ [top]) := by
  rw [downF, if_neg h, if_neg h2]
theorem downF_len {L : Nat → Nat} {lv : Nat} : ∀ (st out : List Nat) {st' out' : List Nat}, downF L lv st out = some (st', out') → st'.length + out'.length = st.length + out.length ∧ (∀ x ∈ st', x ∈ st) ∧ (∀ x ∈ out', x ∈ out ∨ x ∈ st)
  | [], out, st', out', h => by
    simp [downF] at h
    obtain ⟨rfl, rfl⟩ := h
    exact ⟨rfl, by simp, by simp⟩
  | top :: st, out, st', out', h => by
    rw [downF] at h
    split at h
    · simp at h
      obtain ⟨rfl, rfl⟩ := h
      exact ⟨rfl, fun x hx => hx, fun x hx => Or.inl hx⟩
    · split at h
      · simp at h
      · obtain ⟨h1, h2, h3⟩ := downF_len st (out ++ [top]) h
        refine ⟨by simp at h1 ⊢; omega, fun x hx => by simp [h2 x hx], fun x hx => ?_⟩
        rcases h3 x hx with k | k
        · simp at k
          rcases k with k | k
          · exact Or.inl k
          · exact Or.inr (by simp [k])
        · exact Or.inr (by simp [k])
theorem runTo_len {L : Nat → Nat} : ∀ (k : Nat) {st out : List Nat}, runTo L k = some (st, out) → st.length + out.length = k ∧ (∀ x ∈ st, x < k) ∧ (∀ x ∈ out, x < k)
  | 0, st, out, h => by
    simp [runTo] at h
    obtain ⟨rfl, rfl⟩ := h
    exact ⟨rfl, by simp, by simp⟩
  | k + 1, st, out, h => by
    rw [runTo] at h
    split at h
    · simp at h
    · rename_i st0 out0 h0
      obtain ⟨i1, i2, i3⟩ := runTo_len k h0
      split at h
      · simp at h
      · rename_i st1 out1 h1
        simp at h
        obtain ⟨rfl, rfl⟩ := h
        obtain ⟨j1, j2, j3⟩ := downF_len st0 out0 h1
        refine ⟨by simp; omega, fun x hx => ?_, fun x hx => ?_⟩
        · simp at hx
          rcases hx with rfl | hx
          · omega
          · have := i2 x (j2 x hx); omega
        · rcases j3 x hx with hx | hx
          · have := i3 x hx; omega
          · have := i2 x hx; omega
theorem sideN_le (l : Nat) : sideN l ≤ 2 := by unfold sideN; split <;> (try split) <;> omega
end Go.Proofs.Ythibocdpbekbcaa
