/- Matching what was put in: the plain law. -/
import Derived.Test.YtjgjnheeohfmmaaPM
namespace Go.Proofs.Ytjgjnheeohfmmaa
theorem mem_addVar (s : ByteArray) (acc : List ByteArray) (x : Ty) : s ∈ addVar acc x ↔ s ∈ acc ∨ (x.kind = 1 ∧ x.name = s) := by
  unfold addVar
  by_cases h : x.kind = 1 ∧ x.name ∉ acc
  · rw [if_pos h, List.mem_append]
    constructor
    · rintro (q | q)
      · exact Or.inl q
      · exact Or.inr ⟨h.1, (List.mem_singleton.1 q).symm⟩
    · rintro (q | q)
      · exact Or.inl q
      · exact Or.inr (List.mem_singleton.2 q.2.symm)
  · rw [if_neg h]
    constructor
    · exact Or.inl
    · rintro (q | q)
      · exact q
      · by_cases hm : x.name ∈ acc
        · rw [q.2] at hm; exact hm
        · exact absurd ⟨q.1, hm⟩ h
theorem mem_foldVar (s : ByteArray) : ∀ (l : List Ty) (acc : List ByteArray), s ∈ l.foldl addVar acc ↔ s ∈ acc ∨ ∃ x ∈ l, x.kind = 1 ∧ x.name = s
  | [], acc => by simp
  | x :: l, acc => by
    rw [List.foldl_cons, mem_foldVar s l, mem_addVar]
    simp only [List.mem_cons, exists_eq_or_imp]
    exact or_assoc
mutual
theorem Ty.size_turn (o : Ty → Option Ty) (m : Nat) (hm : 1 ≤ m) (h : ∀ x y : Ty, o x = some y → y.size ≤ m) : ∀ t : Ty, (t.turn o).size ≤ t.size * m
  | .mk k s n ks => by
    cases e : o (.mk k s n ks) with
    | some y => rw [Ty.turn_some e, Ty.size, Nat.add_mul]; have := h _ _ e; omega
    | none => rw [Ty.turn_none e, Ty.size, Ty.size, Nat.add_mul]; have := Ty.size_turns o m hm h ks; omega
theorem Ty.size_turns (o : Ty → Option Ty) (m : Nat) (hm : 1 ≤ m) (h : ∀ x y : Ty, o x = some y → y.size ≤ m) : ∀ ts : List Ty, Ty.sizes (Ty.turns o ts) ≤ Ty.sizes ts * m
  | [] => by rw [Ty.turns, Ty.sizes]; omega
  | t :: ts => by rw [Ty.turns, Ty.sizes, Ty.sizes, Nat.add_mul]; have := Ty.size_turn o m hm h t; have := Ty.size_turns o m hm h ts; omega
end
theorem putO_mem {names : List ByteArray} {ts : List Ty} {x y : Ty} (h : putO names ts x = some y) : y ∈ ts := by
  unfold putO at h
  split at h
  · exact List.mem_of_getElem? h
  · simp at h
theorem nodup_addVar {acc : List ByteArray} (h : acc.Nodup) (x : Ty) : (addVar acc x).Nodup := by
  unfold addVar
  split
  · rename_i hh
    rw [List.nodup_append]
    refine ⟨h, by simp, fun a ha b hb => ?_⟩
    simp at hb; subst hb
    intro e; subst e; exact hh.2 ha
  · exact h
/-- it is itself among its types -/
theorem Ty.self_all (t : Ty) : t ∈ t.all := by cases t; rw [Ty.all]; simp
theorem Ty.kid_all {k : Int} {s : ByteArray} {n : Int} {ks : List Ty} {x : Ty} (h : x ∈ Ty.alls ks) : x ∈ (Ty.mk k s n ks).all := by rw [Ty.all]; simp [h]
mutual
theorem Ty.turn_eq (o o' : Ty → Option Ty) : ∀ t : Ty, (∀ x ∈ t.all, x.kind = 1 → x.turn o = x.turn o') → (∀ x : Ty, x.kind ≠ 1 → o x = none ∧ o' x = none) → t.turn o = t.turn o'
  | .mk k s n ks, h1, h2 => by
    by_cases hk : k = 1
    · exact h1 _ (Ty.self_all _) hk
    · have := h2 (.mk k s n ks) hk
      rw [Ty.turn_none this.1, Ty.turn_none this.2, Ty.turns_eq o o' ks (fun x hx => h1 x (Ty.kid_all hx)) h2]
theorem Ty.turns_eq (o o' : Ty → Option Ty) : ∀ ts : List Ty, (∀ x ∈ Ty.alls ts, x.kind = 1 → x.turn o = x.turn o') → (∀ x : Ty, x.kind ≠ 1 → o x = none ∧ o' x = none) → Ty.turns o ts = Ty.turns o' ts
  | [], _, _ => by rw [Ty.turns, Ty.turns]
  | t :: ts, h1, h2 => by
    rw [Ty.turns, Ty.turns, Ty.turn_eq o o' t (fun x hx => h1 x (by rw [Ty.alls]; simp [hx])) h2, Ty.turns_eq o o' ts (fun x hx => h1 x (by rw [Ty.alls]; simp [hx])) h2]
end
mutual
theorem Ty.VarOk.all : ∀ t : Ty, t.VarOk → ∀ x ∈ t.all, x.VarOk
  | .mk k s n ks, h, x, hx => by
    rw [Ty.all] at hx
    rcases List.mem_cons.1 hx with rfl | hx
    · exact h
    · obtain ⟨_, _, _, _, _, hk⟩ := h
      exact Ty.VarOk.alls ks hk x hx
theorem Ty.VarOk.alls : ∀ ts : List Ty, (∀ t ∈ ts, t.VarOk) → ∀ x ∈ Ty.alls ts, x.VarOk
  | [], _, x, hx => by rw [Ty.alls] at hx; simp at hx
  | t :: ts, h, x, hx => by
    rw [Ty.alls] at hx
    rcases List.mem_append.1 hx with hx | hx
    · exact Ty.VarOk.all t (h t (by simp)) x hx
    · exact Ty.VarOk.alls ts (fun y hy => h y (by simp [hy])) x hx
end
/-- a variable -/
abbrev tv (s : ByteArray) : Ty := .mk 1 s 0 []
theorem Ty.var_form {x : Ty} (h : x.VarOk) (hk : x.kind = 1) : x = tv x.name := by
  obtain ⟨k, s, n, ks, h1, _⟩ := h
  simp only [Ty.kind] at hk
  obtain ⟨rfl, rfl⟩ := h1 hk
  subst hk
  rfl
theorem firstAt_get {s : ByteArray} {vs : List ByteArray} (h : s ∈ vs) : ∃ j : Nat, firstAt s vs 0 = j ∧ vs[j]? = some s := by
  have key : ∀ (vs : List ByteArray) (k : Nat), s ∈ vs → ∃ j : Nat, firstAt s vs k = ((k + j : Nat) : Int) ∧ vs[j]? = some s := by
    intro vs
    induction vs with
    | nil => intro k h; simp at h
    | cons y ys ih =>
      intro k h
      rw [firstAt]
      by_cases e : s = y
      · exact ⟨0, by rw [if_pos e]; rfl, by simp [e]⟩
      · obtain ⟨j, h1, h2⟩ := ih (k + 1) (by simpa [e] using h)
        exact ⟨j + 1, by rw [if_neg e, h1]; congr 1; omega, by simpa using h2⟩
  obtain ⟨j, h1, h2⟩ := key vs 0 h
  exact ⟨j, by rw [h1]; congr 1; omega, h2⟩
mutual
/-- matching a type against itself with types put in -/
theorem mt_turn (o : Ty → Option Ty) (ho : ∀ x : Ty, x.kind ≠ 1 → o x = none) : ∀ (t : Ty) (vs : List ByteArray), t.VarOk → mt (vs, vs.map fun s => (tv s).turn o) t (t.turn o) = some (t.all.foldl addVar vs, (t.all.foldl addVar vs).map fun s => (tv s).turn o)
  | .mk k s n ks, vs, hv => by
    have hv' := hv
    obtain ⟨_, _, _, _, hvk, hvs⟩ := hv
    by_cases hk : k = 1
    · subst hk
      obtain ⟨rfl, rfl⟩ := hvk rfl
      rw [mt_var0, Ty.all]
      simp only [Ty.alls, List.foldl_cons, List.foldl_nil]
      by_cases hm : s ∈ vs
      · obtain ⟨j, hj, hg⟩ := firstAt_get hm
        rw [addVar_no (fun q => q.2 hm), hj, if_pos (by omega)]
        rw [if_pos (by simp [hg])]
      · rw [addVar_yes ⟨rfl, hm⟩, firstAt_out hm, if_neg (by omega)]
        simp
    · have h0 := ho (.mk k s n ks) hk
      rw [Ty.turn_none h0, mt_con0 hk, if_pos ⟨rfl, rfl, rfl⟩]
      show mts _ ks (Ty.turns o ks) = _
      rw [mts_turn o ho ks vs hvs, Ty.all, List.foldl_cons, addVar_no (fun q => hk q.1)]
theorem mts_turn (o : Ty → Option Ty) (ho : ∀ x : Ty, x.kind ≠ 1 → o x = none) : ∀ (ts : List Ty) (vs : List ByteArray), (∀ t ∈ ts, t.VarOk) → mts (vs, vs.map fun s => (tv s).turn o) ts (Ty.turns o ts) = some ((Ty.alls ts).foldl addVar vs, ((Ty.alls ts).foldl addVar vs).map fun s => (tv s).turn o)
  | [], vs, _ => by rw [Ty.turns, mts, if_pos rfl, Ty.alls]; rfl
  | t :: ts, vs, h => by
    rw [Ty.turns, mts, mt_turn o ho t vs (h t (by simp))]
    simp only
    rw [mts_turn o ho ts _ (fun x hx => h x (by simp [hx])), Ty.alls, List.foldl_append]
end
/-- what matched, put in again -/
theorem turn_back (o : Ty → Option Ty) (ho : ∀ x : Ty, x.kind ≠ 1 → o x = none) (t : Ty) (hv : t.VarOk) : t.turn (putO t.vars (t.vars.map fun s => (tv s).turn o)) = t.turn o := by
  refine Ty.turn_eq _ _ t (fun x hx hk => ?_) (fun x hk => ⟨by cases x; exact putO_not hk, ho x hk⟩)
  have hf := Ty.var_form (Ty.VarOk.all t hv x hx) hk
  have hm : x.name ∈ t.vars := (mem_foldVar x.name t.all []).2 (Or.inr ⟨x, hx, hk, rfl⟩)
  obtain ⟨j, hj, hg⟩ := firstAt_get hm
  rw [hf]
  exact Ty.turn_some (by rw [putO_in hj]; simp [hg])
/-- a name that does not occur changes nothing -/
theorem turn_other (name : ByteArray) (u t : Ty) (hv : t.VarOk) (h : name ∉ t.vars) : t.turn (putO [name] [u]) = t := by
  have e := Ty.turn_eq (putO [name] [u]) (fun _ => none) t (fun x hx hk => by
    have hne : x.name ≠ name := fun e => h ((mem_foldVar name t.all []).2 (Or.inr ⟨x, hx, hk, e⟩))
    have hf := Ty.var_form (Ty.VarOk.all t hv x hx) hk
    have h0 : putO [name] [u] (tv x.name) = none := putO_out (by rw [firstAt_out (by simpa using hne)]; omega)
    rw [hf, Ty.turn_none h0, Ty.turn_none rfl, Ty.turns, Ty.turns]) (fun x hk => ⟨by cases x; exact putO_not hk, rfl⟩)
  rw [e, Ty.turn_id]
end Go.Proofs.Ytjgjnheeohfmmaa
