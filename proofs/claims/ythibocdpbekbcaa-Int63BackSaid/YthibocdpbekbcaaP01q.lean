/- What Text writes, Parse reads: the plain part, and the law int63.Parse(int63.Text(a)). -/
import Derived.Test.YthibocdpbekbcaaW01p
import Derived.Lib.Strings
import Derived.Lib.IndexBytes
namespace Go.Proofs.Ythibocdpbekbcaa
open Go.RowKit
theorem digs_acc : ∀ (f u : Nat) (acc : List Int), digs f u acc = digs f u [] ++ acc
  | 0, _, acc => by simp [digs]
  | f + 1, u, acc => by
    rw [digs, digs]
    split
    · simp
    · rw [digs_acc f (u / 10) (_ :: acc), digs_acc f (u / 10) [_]]; simp
theorem valL_app (ds : List Int) (x : Int) : valL (ds ++ [x]) = 10 * valL ds + (x - 48) := by
  unfold valL; rw [List.foldl_append]; rfl
structure Good (ds : List Int) (u : Nat) : Prop where
  rng : ∀ x ∈ ds, 48 ≤ x ∧ x ≤ 57
  val : valL ds = u
  head : u ≠ 0 → ∀ x, ds.head? = some x → x ≠ 48
theorem digs_good : ∀ (f u : Nat), u < 10 ^ f → Good (digs f u []) u ∧ (digs f u []).length ≤ f
  | 0, u, h => ⟨⟨by simp [digs], by simp [digs, valL] at *; omega, by simp [digs]⟩, by simp [digs]⟩
  | f + 1, u, h => by
    rw [digs]
    by_cases h0 : u / 10 = 0
    · rw [if_pos h0]
      refine ⟨⟨?_, ?_, ?_⟩, by simp⟩
      · intro x hx; simp at hx; omega
      · simp [valL]; omega
      · intro hu x hx; simp at hx; omega
    · rw [if_neg h0, digs_acc]
      have hlt : u / 10 < 10 ^ f := by rw [Nat.pow_succ] at h; omega
      obtain ⟨ih, il⟩ := digs_good f (u / 10) hlt
      generalize digs f (u / 10) [] = D at *
      have hne : D ≠ [] := by rintro rfl; have := ih.val; simp [valL] at this; omega
      refine ⟨⟨?_, ?_, ?_⟩, by simp; omega⟩
      · intro x hx
        rcases List.mem_append.1 hx with hx | hx
        · exact ih.rng x hx
        · simp at hx; omega
      · rw [valL_app, ih.val]; omega
      · intro _ x hx
        cases D with
        | nil => exact absurd rfl hne
        | cons y D => exact ih.head (by omega) x (by simpa using hx)
theorem digs_len (f u : Nat) : 1 ≤ (digs (f + 1) u []).length := by
  rw [digs]
  split
  · simp
  · rw [digs_acc]; simp
theorem valL_pre (ds : List Int) (h : ∀ x ∈ ds, 48 ≤ x ∧ x ≤ 57) : ∀ k, k ≤ ds.length → 0 ≤ valL (ds.take k) ∧ ∀ j, j ≤ k → valL (ds.take j) ≤ valL (ds.take k)
  | 0, _ => ⟨by simp [valL], fun j hj => by have : j = 0 := by omega
                                            subst this; omega⟩
  | k + 1, hk => by
    obtain ⟨i1, i2⟩ := valL_pre ds h k (by omega)
    have hs := valL_snoc ds k (by omega)
    have hr := h ds[k] (by simp)
    refine ⟨by omega, fun j hj => ?_⟩
    by_cases e : j = k + 1
    · subst e; omega
    · have := i2 j (by omega); omega
theorem strOfNums_get (ds : List Int) (k : Nat) (h : k < (strOfNums ds).size) (h' : k < ds.length) (hr : 0 ≤ ds[k] ∧ ds[k] ≤ 255) : (((strOfNums ds)[k]).toNat : Int) = ds[k] := by
  have e : (strOfNums ds)[k] = UInt8.ofNat ds[k].toNat := by
    show (strOfNums ds).data[k] = _
    simp [strOfNums]
  rw [e]; simp; omega
theorem Digs_of {ds : List Int} {u : Nat} (g : Good ds u) (h1 : 1 ≤ ds.length) (hu : u ≤ 4611686018427387904) (hz : u = 0 → ds.length = 1) : Digs (strOfNums ds) ds := by
  have hr : ∀ k (h : k < ds.length), 48 ≤ ds[k] ∧ ds[k] ≤ 57 := fun k h => g.rng _ (by simp)
  refine ⟨strOfNums_size ds, h1, hr, ?_, ?_, ?_⟩
  · intro k h h'
    have := hr k h'
    exact strOfNums_get ds k h h' (by omega)
  · intro h2 h e
    refine g.head (fun hu0 => ?_) ds[0] ?_ e
    · have := hz hu0; omega
    · rw [List.head?_eq_getElem?]; simp
  · intro k hk
    obtain ⟨i1, _⟩ := valL_pre ds g.rng k hk
    have i2 := (valL_pre ds g.rng ds.length (Nat.le_refl _)).2 k hk
    rw [List.take_length, g.val] at i2
    omega
theorem tail_text (x : Int) (ds : List Int) : (strOfNums (x :: ds)).extract 1 (strOfNums (x :: ds)).size = strOfNums ds := by
  apply Go.WideShapes.bytes_inj
  rw [Lib.extract_to_end, strOfNums_data, strOfNums_data]
  simp
theorem Parse_Text (z : Int) (w : World) (h1 : -4611686018427387904 ≤ z) (h2 : z ≤ 4611686018427387903) :
    Calls Try.prog 57 #[.string (txt z)] w fun e w' => e = .returned (.tuple #[.int .i64 z, .int .i64 0]) ∧ w = w' := by
  rcases Int.lt_or_le z 0 with hz | hz
  · obtain ⟨u, hu⟩ : ∃ u : Nat, u = (-z).toNat := ⟨_, rfl⟩
    obtain ⟨g, gl⟩ := digs_good 20 u (by omega)
    have hl := digs_len 19 u
    obtain ⟨ds, hd⟩ : ∃ ds, ds = digs 20 u [] := ⟨_, rfl⟩
    rw [← hd] at g gl hl
    rw [txt_neg hz (ds := ds) (by rw [hd, hu])]
    have hD := Digs_of g hl (by omega) (by omega)
    have hne : ((strOfNums ds).toList == [48]) = false := by
      rw [beq_eq_false_iff_ne, ByteArray.toList_eq, strOfNums_data]
      intro e
      cases ds with
      | nil => simp at e
      | cons y ds =>
        have hy := g.rng y (by simp)
        have hh := g.head (by omega) y (by simp)
        have e1 := congrArg List.head? e
        simp at e1
        have e2 := congrArg UInt8.toNat e1
        simp at e2
        omega
    have hs : 0 < (strOfNums (45 :: ds)).size := by rw [strOfNums_size]; simp
    have hq : ((strOfNums (45 :: ds))[0]'hs).toNat = 45 := by
      have := strOfNums_get (45 :: ds) 0 hs (by simp) (by simp)
      simp at this; omega
    refine (Parse_neg _ _ ds w hs hq (tail_text 45 ds) hD (by rw [strOfNums_size]; simp; omega) hne).mono ?_
    rintro e w' ⟨rfl, rfl⟩
    exact ⟨ret_ii (by rw [g.val]; omega) rfl, rfl⟩
  · obtain ⟨u, hu⟩ : ∃ u : Nat, u = z.toNat := ⟨_, rfl⟩
    obtain ⟨g, gl⟩ := digs_good 20 u (by omega)
    have hl := digs_len 19 u
    have hz0 : u = 0 → (digs 20 u []).length = 1 := by rintro h0; rw [h0]; rfl
    obtain ⟨ds, hd⟩ : ∃ ds, ds = digs 20 u [] := ⟨_, rfl⟩
    rw [← hd] at g gl hl hz0
    rw [txt_pos hz (ds := ds) (by rw [hd, hu])]
    have hD := Digs_of g hl (by omega) hz0
    refine (Parse_pos _ ds w hD (by rw [strOfNums_size]; omega) (by rw [g.val]; omega)).mono ?_
    rintro e w' ⟨rfl, rfl⟩
    exact ⟨ret_ii (by rw [g.val]; omega) rfl, rfl⟩
end Go.Proofs.Ythibocdpbekbcaa
