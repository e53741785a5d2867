/- Plain heaps: objects one after the other, their words, where they begin; which word is an object's. -/
import Derived.Test.YtecpnlhjjmcllaaP02
namespace Go.Proofs.Ytecpnlhjjmcllaa
structure HO where
  kind : Int
  tag : Int
  parts : List Int
def HO.ok (o : HO) : Prop := headOk o.kind o.tag o.parts.length = true ∧ 0 < o.parts.length ∧ ∀ x ∈ o.parts, 0 ≤ x ∧ x ≤ 18446744073709551615
def HO.head (o : HO) : Int := headW o.kind o.tag o.parts.length
def HO.ws (o : HO) : List Int := o.head :: o.parts
def HO.bs (o : HO) : List Bool := true :: List.replicate o.parts.length false
def hwT (H : List HO) : List Int := (H.map HO.ws).flatten
def hbT (H : List HO) : List Bool := (H.map HO.bs).flatten
def hw (H : List HO) : List Int := 0 :: hwT H
def hb (H : List HO) : List Bool := false :: hbT H
def used (H : List HO) : Nat := (hwT H).length
theorem HO.ws_len (o : HO) : o.ws.length = o.parts.length + 1 := by simp [HO.ws]
theorem HO.bs_len (o : HO) : o.bs.length = o.parts.length + 1 := by simp [HO.bs]
theorem hwT_app (a b : List HO) : hwT (a ++ b) = hwT a ++ hwT b := by simp [hwT]
theorem hbT_app (a b : List HO) : hbT (a ++ b) = hbT a ++ hbT b := by simp [hbT]
theorem hwT_cons (o : HO) (b : List HO) : hwT (o :: b) = o.ws ++ hwT b := by simp [hwT]
theorem hbT_cons (o : HO) (b : List HO) : hbT (o :: b) = o.bs ++ hbT b := by simp [hbT]
theorem hbT_len : ∀ H : List HO, (hbT H).length = (hwT H).length
  | [] => rfl
  | o :: H => by rw [hbT_cons, hwT_cons, List.length_append, List.length_append, hbT_len H, o.ws_len, o.bs_len]
theorem hw_len (H : List HO) : (hw H).length = used H + 1 := by simp [hw, used]
theorem hb_len (H : List HO) : (hb H).length = used H + 1 := by simp [hb, used, hbT_len]
theorem used_app (a b : List HO) : used (a ++ b) = used a + used b := by simp [used, hwT_app]
theorem used_one (o : HO) : used [o] = o.parts.length + 1 := by simp [used, hwT, o.ws_len]
theorem used_nil : used [] = 0 := rfl
theorem used_cons (o : HO) (H : List HO) : used (o :: H) = o.parts.length + 1 + used H := by simp [used, hwT_cons, o.ws_len]
theorem hw_app (H : List HO) (o : HO) : hw (H ++ [o]) = hw H ++ o.ws := by simp [hw, hwT]
theorem hb_app (H : List HO) (o : HO) : hb (H ++ [o]) = hb H ++ o.bs := by simp [hb, hbT]
/-- the object of a word -/
def objFrom : Nat → List HO → Int → Option HO
  | _, [], _ => none
  | a, o :: H, w => if w = 2 * (a : Int) then some o else objFrom (a + 1 + o.parts.length) H w
def objOf (H : List HO) (w : Int) : Option HO := objFrom 1 H w
theorem rep_get {n j : Nat} {b : Bool} : (List.replicate n b)[j]? = some true → b = true ∧ j < n := by
  rw [List.getElem?_replicate]
  split
  · intro h; simp at h; exact ⟨h, by assumption⟩
  · intro h; cases h
/-- what is known where an object begins -/
theorem objFrom_some : ∀ (H : List HO) (a : Nat) (w : Int) (o : HO), objFrom a H w = some o → ∃ p q, H = p ++ o :: q ∧ w = 2 * ((a + used p : Nat) : Int)
  | [], a, w, o, h => by cases h
  | x :: H, a, w, o, h => by
    rw [objFrom] at h
    split at h
    · cases h
      exact ⟨[], H, rfl, by simp [used_nil]; assumption⟩
    · obtain ⟨p, q, rfl, e⟩ := objFrom_some H _ w o h
      exact ⟨x :: p, q, rfl, by rw [used_cons]; omega⟩
theorem objFrom_begin : ∀ (H : List HO) (a j : Nat), (hbT H)[j]? = some true → ∃ o, objFrom a H (2 * ((a + j : Nat) : Int)) = some o
  | [], a, j, h => by simp [hbT] at h
  | x :: H, a, j, h => by
    rw [hbT_cons] at h
    by_cases hj : j < x.bs.length
    · rw [List.getElem?_append_left hj] at h
      cases j with
      | zero => exact ⟨x, by rw [objFrom, if_pos (by simp)]⟩
      | succ j =>
        rw [HO.bs, List.getElem?_cons_succ] at h
        cases (rep_get h).1
    · rw [List.getElem?_append_right (by omega), x.bs_len] at h
      rw [x.bs_len] at hj
      obtain ⟨o, ho⟩ := objFrom_begin H (a + 1 + x.parts.length) _ h
      refine ⟨o, ?_⟩
      rw [objFrom, if_neg (by omega)]
      rw [← ho]
      congr 1
      omega
theorem hb_get (H : List HO) (j : Nat) (hj : 1 ≤ j) : (hb H)[j]? = (hbT H)[j - 1]? := by
  obtain ⟨k, rfl⟩ : ∃ k, j = k + 1 := ⟨j - 1, by omega⟩
  rw [hb, List.getElem?_cons_succ]; rfl
theorem hw_get (H : List HO) (j : Nat) (hj : 1 ≤ j) : (hw H)[j]? = (hwT H)[j - 1]? := by
  obtain ⟨k, rfl⟩ : ∃ k, j = k + 1 := ⟨j - 1, by omega⟩
  rw [hw, List.getElem?_cons_succ]; rfl
/-- a place where an object begins -/
theorem obj_begin {H : List HO} {j : Nat} (hj : 1 ≤ j) (h : (hb H)[j]? = some true) : ∃ o, objOf H (2 * (j : Int)) = some o := by
  rw [hb_get H j hj] at h
  obtain ⟨o, ho⟩ := objFrom_begin H 1 (j - 1) h
  exact ⟨o, by rw [objOf, ← ho]; congr 2; omega⟩
/-- an object's place -/
theorem obj_at {H : List HO} {w : Int} {o : HO} (h : objOf H w = some o) : ∃ a : Nat, 1 ≤ a ∧ w = 2 * (a : Int) ∧ a + o.parts.length < used H + 1 ∧ (hb H)[a]? = some true ∧ (hw H)[a]? = some o.head ∧ (∀ i, i < o.parts.length → (hw H)[a + 1 + i]? = o.parts[i]?) ∧ o ∈ H := by
  obtain ⟨p, q, rfl, e⟩ := objFrom_some H 1 w o h
  refine ⟨1 + used p, by omega, e, ?_, ?_, ?_, fun i hi => ?_, by simp⟩
  · rw [used_app, used_cons]; omega
  · rw [hb_get _ _ (by omega), hbT_app, List.getElem?_append_right (by rw [hbT_len]; unfold used; omega), hbT_len, hbT_cons, show 1 + used p - 1 - (hwT p).length = 0 by unfold used; omega]
    rfl
  · rw [hw_get _ _ (by omega), hwT_app, List.getElem?_append_right (by unfold used; omega), hwT_cons, show 1 + used p - 1 - (hwT p).length = 0 by unfold used; omega]
    rfl
  · rw [hw_get _ _ (by omega), hwT_app, List.getElem?_append_right (by unfold used; omega), hwT_cons, show 1 + used p + 1 + i - 1 - (hwT p).length = i + 1 by unfold used; omega, List.getElem?_append_left (by rw [o.ws_len]; omega), HO.ws, List.getElem?_cons_succ]
/-- the object of a word: its number -/
def findFrom : Nat → List HO → Int → Option Nat
  | _, [], _ => none
  | a, o :: H, w => if w = 2 * (a : Int) then some 0 else (findFrom (a + 1 + o.parts.length) H w).map (· + 1)
end Go.Proofs.Ytecpnlhjjmcllaa
