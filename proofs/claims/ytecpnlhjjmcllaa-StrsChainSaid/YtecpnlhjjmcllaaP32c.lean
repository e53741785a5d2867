/- The order of texts, byte by byte: the other way round, on, behind another; heaps of texts alone. -/
import Derived.Test.YtecpnlhjjmcllaaB32q
namespace Go.Proofs.Ytecpnlhjjmcllaa
open Go.RowKit
abbrev cmpB := Lib.compareBytes
theorem cmp_anti : ∀ a b : List UInt8, cmpB a b = - cmpB b a
  | [], [] => by simp [cmpB, Lib.compareBytes]
  | [], _ :: _ => by simp [cmpB, Lib.compareBytes]
  | _ :: _, [] => by simp [cmpB, Lib.compareBytes]
  | a :: x, b :: y => by
    have ih := cmp_anti x y
    simp only [cmpB, Lib.compareBytes] at ih ⊢
    by_cases q : a < b
    · have : ¬ b < a := fun h => absurd (UInt8.lt_trans q h) (UInt8.lt_irrefl _)
      simp [q, this]
    · by_cases q2 : b < a
      · simp [q, q2]
      · simp [q, q2, ih]
theorem cmp_trans : ∀ a b c : List UInt8, (cmpB a b = cmpB b c → cmpB a c = cmpB a b) ∧ (cmpB a b = 0 → cmpB a c = cmpB b c) := by
  have h0 : ∀ a b : List UInt8, cmpB a b = 0 → a = b := fun a b h => (cmp_less a b).2.2 h
  have lt : ∀ a b c : List UInt8, cmpB a b = -1 → cmpB b c = -1 → cmpB a c = -1 := by
    intro a
    induction a with
    | nil =>
      intro b c h1 h2
      cases b with
      | nil => simp [cmpB, Lib.compareBytes] at h1
      | cons y b => cases c with
        | nil => simp [cmpB, Lib.compareBytes] at h2
        | cons z c => simp [cmpB, Lib.compareBytes]
    | cons x a ih =>
      intro b c h1 h2
      cases b with
      | nil => simp [cmpB, Lib.compareBytes] at h1
      | cons y b => cases c with
        | nil => simp [cmpB, Lib.compareBytes] at h2
        | cons z c =>
          simp only [cmpB, Lib.compareBytes] at h1 h2 ih ⊢
          by_cases q : x < y
          · by_cases q2 : y < z
            · rw [if_pos (UInt8.lt_trans q q2)]
            · rw [if_neg q2] at h2
              by_cases q3 : z < y
              · rw [if_pos q3] at h2; cases h2
              · have : y = z := UInt8.le_antisymm (UInt8.not_lt.1 q3) (UInt8.not_lt.1 q2)
                subst this
                rw [if_pos q]
          · rw [if_neg q] at h1
            by_cases q3 : y < x
            · rw [if_pos q3] at h1; cases h1
            · have : x = y := UInt8.le_antisymm (UInt8.not_lt.1 q3) (UInt8.not_lt.1 q)
              subst this
              rw [if_neg q3] at h1
              by_cases q2 : x < z
              · rw [if_pos q2]
              · rw [if_neg q2] at h2 ⊢
                by_cases q4 : z < x
                · rw [if_pos q4] at h2; cases h2
                · rw [if_neg q4] at h2 ⊢
                  exact ih b c h1 h2
  intro a b c
  constructor
  · intro h
    have q3 : cmpB a b = -1 ∨ cmpB a b = 0 ∨ cmpB a b = 1 := cmp_three a b
    rcases q3 with q | q | q
    · rw [q]; rw [q] at h; exact lt a b c q h.symm
    · have e1 := h0 a b q
      subst e1
      rw [q] at h
      rw [← h, q]
    · rw [q]; rw [q] at h
      have h1 := cmp_anti b a
      have h2 := cmp_anti c b
      have h3 := cmp_anti a c
      have := lt c b a (by omega) (by omega)
      omega
  · intro h
    rw [h0 a b h]
theorem cmp_self (a : List UInt8) : cmpB a a = 0 := (cmp_less a a).2.1 rfl
theorem cmp_app : ∀ a b : List UInt8, cmpB (a ++ b) a = 1 ∨ (cmpB (a ++ b) a = 0 ∧ b = [])
  | [], [] => by simp [cmpB, Lib.compareBytes]
  | [], _ :: _ => by simp [cmpB, Lib.compareBytes]
  | x :: a, b => by
    have := cmp_app a b
    simp only [cmpB, List.cons_append, Lib.compareBytes, UInt8.lt_irrefl, if_false] at this ⊢
    exact this
/-- heaps of texts alone -/
def hT (ss : List ByteArray) : List HO := ss.map textO
theorem textO_ok {s : ByteArray} (hs : s.size ≤ 1000000) : (textO s).ok := by
  refine ⟨?_, ?_, txt_bounds s⟩
  · show headOk 3 0 (txt s).length = true
    rw [txt_len]; unfold headOk
    simp; omega
  · show 0 < (txt s).length
    rw [txt_len]; omega
theorem hT_ok {ss : List ByteArray} (h : ∀ s ∈ ss, s.size ≤ 1000000) : ∀ o ∈ hT ss, o.ok := by
  intro o ho
  obtain ⟨s, hs, rfl⟩ := List.mem_map.1 ho
  exact textO_ok (h s hs)
theorem hT_app (ss : List ByteArray) (s : ByteArray) : hT (ss ++ [s]) = hT ss ++ [textO s] := by simp [hT]
theorem hT_used (ss : List ByteArray) (s : ByteArray) : used (hT (ss ++ [s])) = used (hT ss) + ((s.size + 7) / 8 + 2) := by
  rw [hT_app, used_app, used_one]
  show _ + ((txt s).length + 1) = _
  rw [txt_len]
theorem hT_len (ss : List ByteArray) : (hT ss).length = ss.length := by simp [hT]
theorem hT_get {ss : List ByteArray} {k : Nat} {s : ByteArray} (h : ss[k]? = some s) (hs : s.size ≤ 1000000) : getT (hT ss) (2 * ((adr (hT ss) k : Nat) : Int)) = some s :=
  getT_text (objOf_adr (by simp [hT, h])) (by omega)
theorem hT_adr (ss ts : List ByteArray) {k : Nat} (h : k ≤ ss.length) : adr (hT (ss ++ ts)) k = adr (hT ss) k := by
  unfold adr hT
  rw [List.map_append, List.take_append_of_le_length (by simpa using h)]
theorem Put_t (b : Nat) (sz : Int) (ss : List ByteArray) (M : Mem) (hM : HeapAt b sz (hT ss) M) (h : 0 < sz) (hs : sz ≤ 16777216) (s : ByteArray) (hss : s.size ≤ 1000000) (hfit : (used (hT ss) : Int) + ((s.size + 7) / 8 + 2 : Nat) ≤ sz) :
    ACall Try.prog 37 [.ptr b 0, .val (.string s)] M (fun v M' => v = .tup [.val (.int .u64 (2 * ((adr (hT (ss ++ [s])) ss.length : Nat) : Int))), .val (.bool true)] ∧ HeapAt b sz (hT (ss ++ [s])) M') := by
  have hl := txt_len s
  refine (Put_c b sz (hT ss) M hM h hs (by omega) s (by omega)).mono ?_
  rintro v M' ⟨ok, w, H', hr, rfl, hM'⟩
  have e : adr (hT (ss ++ [s])) ss.length = used (hT ss) + 1 := by
    rw [hT_adr ss [s] (Nat.le_refl _)]
    unfold adr
    rw [List.take_of_length_le (by rw [hT_len]; exact Nat.le_refl _)]
  rcases hr with ⟨h1, rfl, rfl, rfl⟩ | ⟨h1, _⟩
  · rw [e, hT_app]
    exact ⟨by rw [Int.natCast_add]; rfl, hM'⟩
  · exfalso
    apply h1
    refine ⟨?_, ?_, ?_⟩
    · show headOk 3 0 (txt s).length = true
      rw [hl]; unfold headOk; simp; omega
    · show 0 < (txt s).length
      omega
    · show (used (hT ss) : Int) + (txt s).length + 1 ≤ sz
      omega
theorem New_y (sz : Int) (h : 1 ≤ sz) (h2 : sz ≤ 16777216) : ACall Try.prog 12 [.val (.int .i64 sz)] [] (fun v M' => ∃ b, v = .tup [.ptr b 0, .val (.int .i64 0)] ∧ HeapAt b sz [] M') :=
  (New_c sz).mono (by
    rintro v M' (⟨_, _, b, rfl, hM⟩ | ⟨hn, _⟩)
    · exact ⟨b, rfl, hM⟩
    · exact absurd ⟨h, h2⟩ hn)
end Go.Proofs.Ytecpnlhjjmcllaa
