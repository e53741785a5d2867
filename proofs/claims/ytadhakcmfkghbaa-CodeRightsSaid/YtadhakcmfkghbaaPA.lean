/- Types as plain data, on: what a type takes and answers, its parts in order, its variables and metas. -/
import Derived.Test.YtadhakcmfkghbaaPT
namespace Go.Proofs.Ytadhakcmfkghbaa
abbrev arrow : ByteArray := ⟨#[45, 62]⟩
def Ty.isFun (t : Ty) : Prop := t.kind = 3 ∧ t.name = arrow ∧ t.kids.length = 2
def Ty.args : Ty → List Ty
  | .mk k s _ [a, b] => if k = 3 ∧ s = arrow then a :: b.args else []
  | _ => []
termination_by t => t.size
decreasing_by simp [Ty.size, Ty.sizes]; omega
def Ty.ans : Ty → Ty
  | .mk k s n [a, b] => if k = 3 ∧ s = arrow then b.ans else .mk k s n [a, b]
  | t => t
termination_by t => t.size
decreasing_by simp [Ty.size, Ty.sizes]; omega
theorem Ty.fun_kids {t : Ty} (h : t.isFun) : ∃ n a b, t = .mk 3 arrow n [a, b] := by
  obtain ⟨k, s, n, ks⟩ := t
  obtain ⟨h1, h2, h3⟩ := h
  simp only [Ty.kind, Ty.name, Ty.kids] at h1 h2 h3
  subst h1 h2
  match ks, h3 with
  | [a, b], _ => exact ⟨n, a, b, rfl⟩
theorem Ty.args_fun (n : Int) (a b : Ty) : Ty.args (.mk 3 arrow n [a, b]) = a :: b.args := by rw [Ty.args]; simp
theorem Ty.ans_fun (n : Int) (a b : Ty) : Ty.ans (.mk 3 arrow n [a, b]) = b.ans := by rw [Ty.ans]; simp
theorem Ty.args_not {t : Ty} (h : ¬ t.isFun) : t.args = [] := by
  rw [Ty.args.eq_def]
  split
  · rw [if_neg]
    rintro ⟨rfl, rfl⟩
    exact h ⟨rfl, rfl, rfl⟩
  · rfl
theorem Ty.ans_not {t : Ty} (h : ¬ t.isFun) : t.ans = t := by
  rw [Ty.ans.eq_def]
  split
  · rw [if_neg]
    rintro ⟨rfl, rfl⟩
    exact h ⟨rfl, rfl, rfl⟩
  · rfl
theorem Ty.args_size : ∀ (t : Ty), t.args.length ≤ t.size := by
  intro t
  generalize hd : t.size = d
  induction d using Nat.strongRecOn generalizing t with
  | _ d ih =>
    by_cases h : t.isFun
    · obtain ⟨n, a, b, rfl⟩ := Ty.fun_kids h
      rw [Ty.args_fun]
      have hb : b.size < d := by rw [← hd]; simp [Ty.size, Ty.sizes]; omega
      have := ih b.size hb b rfl
      simp
      omega
    · rw [Ty.args_not h]; simp
mutual
def Ty.all : Ty → List Ty
  | .mk k s n ks => .mk k s n ks :: Ty.alls ks
def Ty.alls : List Ty → List Ty
  | [] => []
  | t :: ts => t.all ++ Ty.alls ts
end
theorem Ty.alls_app : ∀ a b : List Ty, Ty.alls (a ++ b) = Ty.alls a ++ Ty.alls b
  | [], b => by simp [Ty.alls]
  | t :: ts, b => by simp [Ty.alls, Ty.alls_app ts b]
mutual
theorem Ty.all_len : ∀ t : Ty, t.all.length = t.size
  | .mk k s n ks => by rw [Ty.all, Ty.size, List.length_cons, Ty.alls_len ks]; omega
theorem Ty.alls_len : ∀ ts : List Ty, (Ty.alls ts).length = Ty.sizes ts
  | [] => by simp [Ty.alls, Ty.sizes]
  | t :: ts => by rw [Ty.alls, Ty.sizes, List.length_append, Ty.all_len t, Ty.alls_len ts]
end
theorem Ty.alls_take (ks : List Ty) {i : Nat} {x : Ty} (h : ks[i]? = some x) : Ty.alls (ks.take (i + 1)) = Ty.alls (ks.take i) ++ x.all := by
  have hi : i < ks.length := by
    rcases Nat.lt_or_ge i ks.length with k | k
    · exact k
    · rw [List.getElem?_eq_none k] at h; simp at h
  rw [List.getElem?_eq_getElem hi] at h
  simp at h
  rw [List.take_succ_eq_append_getElem hi, Ty.alls_app, h]
  simp [Ty.alls]
theorem Ty.sizes_app : ∀ a b : List Ty, Ty.sizes (a ++ b) = Ty.sizes a + Ty.sizes b
  | [], b => by simp [Ty.sizes]
  | t :: ts, b => by simp [Ty.sizes, Ty.sizes_app ts b]; omega
theorem Ty.sizes_take (ks : List Ty) (i : Nat) : Ty.sizes (ks.take i) ≤ Ty.sizes ks := by
  have := Ty.sizes_app (ks.take i) (ks.drop i)
  rw [List.take_append_drop] at this
  omega
theorem take_snoc {α : Type} {l : List α} {i : Nat} {x : α} (h : l[i]? = some x) : l.take (i + 1) = l.take i ++ [x] := by
  have hi : i < l.length := by
    rcases Nat.lt_or_ge i l.length with k | k
    · exact k
    · rw [List.getElem?_eq_none k] at h; simp at h
  rw [List.getElem?_eq_getElem hi] at h
  simp at h
  rw [List.take_succ_eq_append_getElem hi, h]
noncomputable instance (a : ByteArray) (l : List ByteArray) : Decidable (a ∈ l) := Classical.propDecidable _
noncomputable def addVar (acc : List ByteArray) (t : Ty) : List ByteArray := if t.kind = 1 ∧ t.name ∉ acc then acc ++ [t.name] else acc
def addMeta (acc : List Int) (t : Ty) : List Int := if t.kind = 2 ∧ t.num ∉ acc then acc ++ [t.num] else acc
noncomputable def Ty.vars (t : Ty) : List ByteArray := t.all.foldl addVar []
def Ty.metas (t : Ty) : List Int := t.all.foldl addMeta []
theorem addVar_yes {acc : List ByteArray} {k : Int} {s : ByteArray} {n : Int} {ks : List Ty} (h : k = 1 ∧ s ∉ acc) : addVar acc (.mk k s n ks) = acc ++ [s] := if_pos h
theorem addVar_no {acc : List ByteArray} {k : Int} {s : ByteArray} {n : Int} {ks : List Ty} (h : ¬ (k = 1 ∧ s ∉ acc)) : addVar acc (.mk k s n ks) = acc := if_neg h
theorem strs_snoc (acc : List ByteArray) (s : ByteArray) : strs acc ++ [[.val (.string s)]] = strs (acc ++ [s]) := by simp [strs]
theorem addVar_len (acc : List ByteArray) (t : Ty) : (addVar acc t).length ≤ acc.length + 1 := by unfold addVar; split <;> simp
end Go.Proofs.Ytadhakcmfkghbaa
