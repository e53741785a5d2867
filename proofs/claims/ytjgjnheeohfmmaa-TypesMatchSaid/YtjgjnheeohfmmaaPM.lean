/- Matching, in plain words. -/
import Derived.Test.YtjgjnheeohfmmaaPU
namespace Go.Proofs.Ytjgjnheeohfmmaa
/-- two rows of types, held against each other one by one, with a state -/
def eqFold {A : Type} (step : A → Ty → Ty → Option A) : A → List Ty → List Ty → Option A
  | acc, [], [] => some acc
  | acc, x :: xs, y :: ys => match step acc x y with
    | some a => eqFold step a xs ys
    | none => none
  | _, _, _ => none
theorem eqFold_len {A : Type} (step : A → Ty → Ty → Option A) : ∀ (xs ys : List Ty) (acc : A), xs.length ≠ ys.length → eqFold step acc xs ys = none
  | [], [], acc, h => by simp at h
  | [], _ :: _, acc, _ => by rw [eqFold]; all_goals simp
  | _ :: _, [], acc, _ => by rw [eqFold]; all_goals simp
  | x :: xs, y :: ys, acc, h => by
    rw [eqFold]
    split
    · exact eqFold_len step xs ys _ (by simpa using h)
    · rfl
theorem eqFold_cons {A : Type} (step : A → Ty → Ty → Option A) {xs ys : List Ty} {i : Nat} {x y : Ty} (acc : A) (hx : xs[i]? = some x) (hy : ys[i]? = some y) : eqFold step acc (xs.drop i) (ys.drop i) = match step acc x y with
    | some a => eqFold step a (xs.drop (i + 1)) (ys.drop (i + 1))
    | none => none := by
  rw [drop_at hx, drop_at hy, eqFold]
theorem eqFold_nil {A : Type} (step : A → Ty → Ty → Option A) {xs ys : List Ty} {i : Nat} (acc : A) (hx : xs.length ≤ i) (hy : ys.length ≤ i) : eqFold step acc (xs.drop i) (ys.drop i) = some acc := by
  rw [List.drop_eq_nil_of_le hx, List.drop_eq_nil_of_le hy, eqFold]
noncomputable instance : DecidableEq Ty := fun a b => Classical.propDecidable (a = b)
noncomputable def sameStep (_ : Unit) (x y : Ty) : Option Unit := if x = y then some () else none
theorem same_fold : ∀ xs ys : List Ty, eqFold sameStep () xs ys = some () ↔ xs = ys
  | [], [] => by simp [eqFold]
  | [], _ :: _ => by rw [eqFold_len _ _ _ _ (by simp)]; simp
  | _ :: _, [] => by rw [eqFold_len _ _ _ _ (by simp)]; simp
  | x :: xs, y :: ys => by
    rw [eqFold]
    unfold sameStep
    by_cases e : x = y
    · rw [if_pos e]
      have := same_fold xs ys
      unfold sameStep at this
      simp [e, this]
    · rw [if_neg e]; simp [e]
abbrev MSt := List ByteArray × List Ty
mutual
/-- what variables stand for, one type behind the other -/
noncomputable def mt : MSt → Ty → Ty → Option MSt
  | st, .mk k s n ks, b => if k = 1 then
        if 0 ≤ firstAt s st.1 0 then (if st.2[(firstAt s st.1 0).toNat]? = some b then some st else none)
        else some (st.1 ++ [s], st.2 ++ [b])
      else if k = b.kind ∧ s = b.name ∧ n = b.num then mts st ks b.kids else none
noncomputable def mts : MSt → List Ty → List Ty → Option MSt
  | st, [], ys => if ys = [] then some st else none
  | _, _ :: _, [] => none
  | st, x :: xs, y :: ys => match mt st x y with
    | some a => mts a xs ys
    | none => none
end
theorem mt_var0 {st : MSt} {s : ByteArray} {n : Int} {ks : List Ty} {b : Ty} : mt st (.mk 1 s n ks) b = if 0 ≤ firstAt s st.1 0 then (if st.2[(firstAt s st.1 0).toNat]? = some b then some st else none) else some (st.1 ++ [s], st.2 ++ [b]) := by rw [mt, if_pos rfl]
theorem mt_con0 {st : MSt} {k : Int} {s : ByteArray} {n : Int} {ks : List Ty} {b : Ty} (h : k ≠ 1) : mt st (.mk k s n ks) b = if k = b.kind ∧ s = b.name ∧ n = b.num then mts st ks b.kids else none := by rw [mt, if_neg h]
theorem mts_fold : ∀ (xs ys : List Ty) (st : MSt), mts st xs ys = eqFold mt st xs ys
  | [], [], st => by simp [mts, eqFold]
  | [], _ :: _, st => by rw [eqFold_len _ _ _ _ (by simp), mts]; simp
  | _ :: _, [], st => by rw [eqFold_len _ _ _ _ (by simp), mts]
  | x :: xs, y :: ys, st => by
    rw [mts, eqFold]
    cases mt st x y with
    | none => rfl
    | some a => exact mts_fold xs ys a
mutual
theorem mt_len : ∀ (a : Ty) (st st' : MSt) (b : Ty), mt st a b = some st' → st.1.length = st.2.length → st'.1.length = st'.2.length ∧ st'.1.length ≤ st.1.length + a.size
  | .mk k s n ks, st, st', b, h, hl => by
    rw [mt] at h
    rw [Ty.size]
    split at h
    · split at h
      · split at h
        · simp at h; subst h; exact ⟨hl, by omega⟩
        · simp at h
      · simp at h; subst h; simp; omega
    · split at h
      · have := mts_len ks st st' b.kids h hl; exact ⟨this.1, by omega⟩
      · simp at h
theorem mts_len : ∀ (xs : List Ty) (st st' : MSt) (ys : List Ty), mts st xs ys = some st' → st.1.length = st.2.length → st'.1.length = st'.2.length ∧ st'.1.length ≤ st.1.length + Ty.sizes xs
  | [], st, st', ys, h, hl => by
    rw [mts] at h
    split at h
    · simp at h; subst h; exact ⟨hl, by omega⟩
    · simp at h
  | x :: xs, st, st', [], h, hl => by rw [mts] at h; simp at h
  | x :: xs, st, st', y :: ys', h, hl => by
    rw [mts] at h
    rw [Ty.sizes]
    split at h
    · rename_i a ha
      have h1 := mt_len x st a y ha hl
      have h2 := mts_len xs a st' ys' h h1.1
      exact ⟨h2.1, by omega⟩
    · simp at h
end
end Go.Proofs.Ytjgjnheeohfmmaa
