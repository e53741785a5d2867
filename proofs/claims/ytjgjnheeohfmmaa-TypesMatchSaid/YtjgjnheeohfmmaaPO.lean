/- Matching as the document has it: what stands at a variable's place; the two ways agree. -/
import Derived.Test.YtjgjnheeohfmmaaPN
namespace Go.Proofs.Ytjgjnheeohfmmaa
mutual
/-- what stands in b where s stands in a first -/
def Ty.part (s : ByteArray) : Ty → Ty → Option Ty
  | .mk k x _ ks, b => if k = 1 ∧ x = s then some b else Ty.parts s ks b.kids
def Ty.parts (s : ByteArray) : List Ty → List Ty → Option Ty
  | x :: xs, y :: ys => match Ty.part s x y with
    | some r => some r
    | none => Ty.parts s xs ys
  | _, _ => none
end
theorem Ty.parts_nil {s : ByteArray} {xs ys : List Ty} (h : xs = [] ∨ ys = []) : Ty.parts s xs ys = none := by
  rcases h with rfl | rfl
  · rw [Ty.parts]; simp
  · cases xs <;> (rw [Ty.parts]; simp)
theorem Ty.parts_some {s : ByteArray} {x y r : Ty} {xs ys : List Ty} (h : Ty.part s x y = some r) : Ty.parts s (x :: xs) (y :: ys) = some r := by rw [Ty.parts, h]
theorem Ty.parts_none {s : ByteArray} {x y : Ty} {xs ys : List Ty} (h : Ty.part s x y = none) : Ty.parts s (x :: xs) (y :: ys) = Ty.parts s xs ys := by rw [Ty.parts, h]
mutual
theorem Ty.part_out (s : ByteArray) : ∀ (a b : Ty), (∀ x ∈ a.all, ¬ (x.kind = 1 ∧ x.name = s)) → Ty.part s a b = none
  | .mk k x n ks, b, h => by
    rw [Ty.part, if_neg (show ¬ (k = 1 ∧ x = s) from h _ (Ty.self_all _))]
    exact Ty.parts_out s ks b.kids (fun y hy => h y (Ty.kid_all hy))
theorem Ty.parts_out (s : ByteArray) : ∀ (xs ys : List Ty), (∀ x ∈ Ty.alls xs, ¬ (x.kind = 1 ∧ x.name = s)) → Ty.parts s xs ys = none
  | [], _, _ => Ty.parts_nil (Or.inl rfl)
  | _ :: _, [], _ => Ty.parts_nil (Or.inr rfl)
  | x :: xs, y :: ys, h => by
    rw [Ty.parts_none (Ty.part_out s x y (fun z hz => h z (by rw [Ty.alls]; simp [hz])))]
    exact Ty.parts_out s xs ys (fun z hz => h z (by rw [Ty.alls]; simp [hz]))
end
mutual
theorem Ty.part_turn (s : ByteArray) (o : Ty → Option Ty) (ho : ∀ x : Ty, x.kind ≠ 1 → o x = none) : ∀ a : Ty, a.VarOk → (∃ x ∈ a.all, x.kind = 1 ∧ x.name = s) → Ty.part s a (a.turn o) = some ((tv s).turn o)
  | .mk k x n ks, hv, h => by
    obtain ⟨_, _, _, _, hvk, hvs⟩ := hv
    rw [Ty.part]
    by_cases hk : k = 1 ∧ x = s
    · rw [if_pos hk]
      obtain ⟨rfl, rfl⟩ := hk
      obtain ⟨rfl, rfl⟩ := hvk rfl
      rfl
    · rw [if_neg hk]
      by_cases hk1 : k = 1
      · obtain ⟨rfl, rfl⟩ := hvk hk1
        obtain ⟨y, hy, h1, h2⟩ := h
        rw [Ty.all, Ty.alls] at hy
        simp at hy
        subst hy
        exact absurd ⟨hk1, h2⟩ hk
      · rw [Ty.turn_none (ho _ hk1)]
        refine Ty.parts_turn s o ho ks hvs ?_
        obtain ⟨y, hy, h1, h2⟩ := h
        rw [Ty.all] at hy
        rcases List.mem_cons.1 hy with rfl | hy
        · exact absurd h1 hk1
        · exact ⟨y, hy, h1, h2⟩
theorem Ty.parts_turn (s : ByteArray) (o : Ty → Option Ty) (ho : ∀ x : Ty, x.kind ≠ 1 → o x = none) : ∀ xs : List Ty, (∀ t ∈ xs, t.VarOk) → (∃ x ∈ Ty.alls xs, x.kind = 1 ∧ x.name = s) → Ty.parts s xs (Ty.turns o xs) = some ((tv s).turn o)
  | [], _, h => by obtain ⟨y, hy, _⟩ := h; rw [Ty.alls] at hy; simp at hy
  | x :: xs, hv, h => by
    rw [Ty.turns]
    by_cases hx : ∃ z ∈ x.all, z.kind = 1 ∧ z.name = s
    · exact Ty.parts_some (Ty.part_turn s o ho x (hv x (by simp)) hx)
    · rw [Ty.parts_none (Ty.part_out s x _ (fun z hz q => hx ⟨z, hz, q⟩))]
      refine Ty.parts_turn s o ho xs (fun t ht => hv t (by simp [ht])) ?_
      obtain ⟨y, hy, h1⟩ := h
      rw [Ty.alls] at hy
      rcases List.mem_append.1 hy with hy | hy
      · exact absurd ⟨y, hy, h1⟩ hx
      · exact ⟨y, hy, h1⟩
end
/-- a state that goes on from another -/
def MExt (st st' : MSt) : Prop := ∃ p q, st'.1 = st.1 ++ p ∧ st'.2 = st.2 ++ q ∧ p.length = q.length
theorem MExt.refl (st : MSt) : MExt st st := ⟨[], [], by simp, by simp, rfl⟩
theorem MExt.trans {a b c : MSt} (h : MExt a b) (h' : MExt b c) : MExt a c := by
  obtain ⟨p, q, h1, h2, h3⟩ := h
  obtain ⟨p', q', h1', h2', h3'⟩ := h'
  exact ⟨p ++ p', q ++ q', by rw [h1', h1, List.append_assoc], by rw [h2', h2, List.append_assoc], by simp [h3, h3']⟩
theorem firstAt_app {s : ByteArray} : ∀ {xs ys : List ByteArray} {k : Nat}, s ∈ xs → firstAt s (xs ++ ys) k = firstAt s xs k
  | [], _, _, h => by simp at h
  | x :: xs, ys, k, h => by
    rw [List.cons_append, firstAt, firstAt]
    by_cases e : s = x
    · rw [if_pos e, if_pos e]
    · rw [if_neg e, if_neg e]
      exact firstAt_app (by simpa [e] using h)
theorem firstAt_snoc {s : ByteArray} {xs ys : List ByteArray} (h : s ∉ xs) : firstAt s (xs ++ s :: ys) 0 = xs.length := firstAt_at (by simpa using h) (by simp)
mutual
theorem mt_sound : ∀ (a : Ty) (st st' : MSt) (b : Ty), mt st a b = some st' → st.1.length = st.2.length → a.VarOk → MExt st st' ∧ ∀ st'', MExt st' st'' → a.turn (putO st''.1 st''.2) = b
  | .mk k s n ks, st, st', b, h, hl, hv => by
    obtain ⟨_, _, _, _, hvk, hvs⟩ := hv
    by_cases hk : k = 1
    · subst hk
      obtain ⟨rfl, rfl⟩ := hvk rfl
      rw [mt_var0] at h
      split at h
      · rename_i h0
        have hm := (firstAt_nonneg s st.1 0).1 h0
        split at h
        · rename_i h1
          simp at h; subst h
          refine ⟨.refl _, fun st'' he => ?_⟩
          obtain ⟨p, q, e1, e2, e3⟩ := he
          obtain ⟨j, hj, hg⟩ := firstAt_get hm
          refine Ty.turn_some ?_
          rw [putO_in (j := j) (by rw [e1, firstAt_app hm, hj]), e2]
          rw [hj] at h1
          simp only [Int.toNat_natCast] at h1
          rw [List.getElem?_append_left]
          · exact h1
          · rcases Nat.lt_or_ge j st.2.length with q | q
            · exact q
            · rw [List.getElem?_eq_none q] at h1; simp at h1
        · simp at h
      · rename_i h0
        have hm : s ∉ st.1 := fun q => h0 ((firstAt_nonneg s st.1 0).2 q)
        simp at h; subst h
        refine ⟨⟨[s], [b], rfl, rfl, rfl⟩, fun st'' he => ?_⟩
        obtain ⟨p, q, e1, e2, e3⟩ := he
        refine Ty.turn_some ?_
        simp only at e1 e2
        rw [putO_in (j := st.1.length) (by rw [e1, List.append_assoc]; exact firstAt_snoc hm), e2, hl]
        simp
    · rw [mt_con0 hk] at h
      split at h
      · rename_i hc
        obtain ⟨k2, s2, n2, ks2⟩ := b
        simp only [Ty.kind, Ty.name, Ty.num, Ty.kids] at hc h
        obtain ⟨rfl, rfl, rfl⟩ := hc
        obtain ⟨h1, h2⟩ := mts_sound ks st st' ks2 h hl hvs
        exact ⟨h1, fun st'' he => by rw [Ty.turn_none (putO_not hk), h2 st'' he]⟩
      · simp at h
theorem mts_sound : ∀ (xs : List Ty) (st st' : MSt) (ys : List Ty), mts st xs ys = some st' → st.1.length = st.2.length → (∀ t ∈ xs, t.VarOk) → MExt st st' ∧ ∀ st'', MExt st' st'' → Ty.turns (putO st''.1 st''.2) xs = ys
  | [], st, st', ys, h, hl, _ => by
    rw [mts] at h
    split at h
    · rename_i e
      simp at h; subst h; subst e
      exact ⟨.refl _, fun st'' _ => by rw [Ty.turns]⟩
    · simp at h
  | x :: xs, st, st', [], h, hl, _ => by rw [mts] at h; simp at h
  | x :: xs, st, st', y :: ys', h, hl, hv => by
    rw [mts] at h
    split at h
    · rename_i a ha
      have h1 := mt_sound x st a y ha hl (hv x (by simp))
      have h2 := mts_sound xs a st' ys' h (mt_len x st a y ha hl).1 (fun t ht => hv t (by simp [ht]))
      exact ⟨h1.1.trans h2.1, fun st'' he => by rw [Ty.turns, h1.2 st'' (h2.1.trans he), h2.2 st'' he]⟩
    · simp at h
end
/-- what matching says when it says yes -/
theorem mt_yes {a b : Ty} {st : MSt} (hv : a.VarOk) (h : mt ([], []) a b = some st) : st.1 = a.vars ∧ a.turn (putO st.1 st.2) = b ∧ st.2.length = st.1.length ∧ ∀ (i : Nat) (s : ByteArray), st.1[i]? = some s → ∃ y, Ty.part s a b = some y ∧ st.2[i]? = some y := by
  have ho : ∀ x : Ty, x.kind ≠ 1 → putO st.1 st.2 x = none := fun x hk => by cases x; exact putO_not hk
  have hb := (mt_sound a ([], []) st b h rfl hv).2 st (.refl _)
  have hm := mt_turn (putO st.1 st.2) ho a [] hv
  simp only [List.map_nil] at hm
  rw [hb, h] at hm
  simp only [Option.some.injEq] at hm
  have e1 : st.1 = a.vars := congrArg Prod.fst hm
  have e2 : st.2 = a.vars.map fun s => (tv s).turn (putO st.1 st.2) := congrArg Prod.snd hm
  refine ⟨e1, hb, (mt_len a ([], []) st b h rfl).1.symm, fun i s hs => ?_⟩
  rw [e1] at hs
  have hmem : s ∈ a.vars := List.mem_of_getElem? hs
  have hin : ∃ x ∈ a.all, x.kind = 1 ∧ x.name = s := by
    rcases (mem_foldVar s a.all []).1 hmem with q | q
    · simp at q
    · exact q
  refine ⟨(tv s).turn (putO st.1 st.2), ?_, ?_⟩
  · have := Ty.part_turn s (putO st.1 st.2) ho a hv hin
    rw [hb] at this
    exact this
  · rw [e2]
    simp only [List.getElem?_map, hs, Option.map_some]
    rw [← e2]
theorem nodup_foldVar : ∀ (l : List Ty) (acc : List ByteArray), acc.Nodup → (l.foldl addVar acc).Nodup
  | [], _, h => h
  | x :: l, _, h => nodup_foldVar l _ (nodup_addVar h x)
theorem firstAt_nodup {xs : List ByteArray} {i : Nat} {s : ByteArray} (hn : xs.Nodup) (h : xs[i]? = some s) : firstAt s xs 0 = i := by
  refine firstAt_at (fun q => ?_) h
  obtain ⟨j, hj, e⟩ := List.mem_iff_getElem.1 q
  simp at hj
  have hi : i < xs.length := by
    rcases Nat.lt_or_ge i xs.length with k | k
    · exact k
    · rw [List.getElem?_eq_none k] at h; simp at h
  rw [List.getElem?_eq_getElem hi] at h
  simp only [List.getElem_take] at e
  simp only [Option.some.injEq] at h
  exact (List.pairwise_iff_getElem.1 hn) j i (by omega) hi (by omega) (by rw [e, h])
/-- when the document's match says yes, matching does -/
theorem mt_back {a b : Ty} {us : List Ty} (hv : a.VarOk) (hl : us.length = a.vars.length) (h : a.turn (putO a.vars us) = b) : mt ([], []) a b = some (a.vars, us) := by
  have ho : ∀ x : Ty, x.kind ≠ 1 → putO a.vars us x = none := fun x hk => by cases x; exact putO_not hk
  have hm := mt_turn (putO a.vars us) ho a [] hv
  simp only [List.map_nil] at hm
  rw [h] at hm
  rw [hm]
  show some (a.vars, a.vars.map fun s => (tv s).turn (putO a.vars us)) = _
  congr 2
  apply List.ext_getElem?
  intro i
  rcases Nat.lt_or_ge i a.vars.length with k | k
  · obtain ⟨s, hs⟩ := get_some k
    obtain ⟨y, hy⟩ := get_some (l := us) (i := i) (by omega)
    simp only [List.getElem?_map, hs, Option.map_some, hy]
    congr 1
    have hN : a.vars.Nodup := nodup_foldVar _ _ List.nodup_nil
    exact Ty.turn_some (by rw [putO_in (firstAt_nodup hN hs), hy])
  · rw [List.getElem?_eq_none (by simpa using k), List.getElem?_eq_none (by omega)]
end Go.Proofs.Ytjgjnheeohfmmaa
