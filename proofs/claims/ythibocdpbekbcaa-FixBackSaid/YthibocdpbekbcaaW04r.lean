/- cognateref04.Level -/
import Derived.Test.YthibocdpbekbcaaW04
namespace Go.Proofs.Ythibocdpbekbcaa
open Go.RowKit
def rowT (i : Nat) : List (List UInt8) := rowsT.getD i []
/-- the table of the reference lies in memory from block B on -/
structure TblAt (w : World) (B : Nat) : Prop where
  row : ∀ i, i < 7 → w.cell? ⟨B + 7, i, none⟩ = some (.slice (some ⟨B + i, 0, none⟩) (rowT i).length (rowT i).length)
  str : ∀ i, i < 7 → ∀ k, k < (rowT i).length → w.cell? ⟨B + i, k, none⟩ = some (.string ⟨((rowT i).getD k []).toArray⟩)
theorem seven {i : Nat} (h : i < 7) : i = 0 ∨ i = 1 ∨ i = 2 ∨ i = 3 ∨ i = 4 ∨ i = 5 ∨ i = 6 := by omega
theorem rowlen (i : Nat) (h : i < 7) : (rowT i).length ≤ 6 := by
  rcases seven h with rfl | rfl | rfl | rfl | rfl | rfl | rfl <;> decide
def missTo (op : List UInt8) (i : Nat) : Prop := ∀ j, j < 7 → j < i → (rowT j).contains op = false
theorem rowT_get {j : Nat} (h : j < rowsT.length) : rowsT[j] = rowT j := by simp [rowT, List.getD, h]
theorem lvl_at {op : List UInt8} {i : Nat} (hi : i < 7) (hm : missTo op i) (hc : (rowT i).contains op = true) : lvl op = i + 1 := by
  unfold lvl
  congr 1
  have hi' : i < rowsT.length := hi
  rw [List.findIdx_eq hi']
  refine ⟨by rw [rowT_get hi']; exact hc, fun j hj => ?_⟩
  have hj' : j < rowsT.length := by omega
  rw [rowT_get hj']
  exact hm j hj' hj
theorem lvl_8 {op : List UInt8} (hm : missTo op 7) : lvl op = 8 := by
  unfold lvl
  have : rowsT.findIdx (fun r => r.contains op) = rowsT.length := by
    rw [List.findIdx_eq_length]
    intro r hr
    obtain ⟨j, hj, rfl⟩ := List.getElem_of_mem hr
    rw [rowT_get hj]
    exact hm j hj hj
  rw [this]; rfl
theorem miss_row {op : List UInt8} {i : Nat} (h : ∀ k, k < (rowT i).length → (rowT i).getD k [] ≠ op) : (rowT i).contains op = false := by
  rw [List.contains_eq_mem, decide_eq_false_iff_not]
  intro hm
  obtain ⟨k, hk, e⟩ := List.getElem_of_mem hm
  exact h k hk (by simp [List.getD, hk, e])
theorem hit_row {op : List UInt8} {i k : Nat} (hk : k < (rowT i).length) (h : (rowT i).getD k [] = op) : (rowT i).contains op = true := by
  rw [List.contains_eq_mem, decide_eq_true_eq]
  have : (rowT i)[k] = op := by simpa [List.getD, hk] using h
  rw [← this]; exact List.getElem_mem hk
set_option maxHeartbeats 4000000 in
theorem rLevel_c (s : ByteArray) (w : World) : Calls Try.prog 53 #[.string s] w fun e w' => e = .returned (.int .i64 (lvl s.toList : Nat)) ∧ Below w.heap.size w w' := by
  go_enter Try.func53, Try.ntmps53
  go_wp2
  go_loopw [4, 5] (fun vi _ wr => ∃ i : Nat, i ≤ 7 ∧ vi = .int .i64 i ∧ missTo s.toList i ∧ TblAt wr w.heap.size ∧ Below w.heap.size w wr) (fun vi _ _ => 7 - (intOf vi).toNat)
  case atStart =>
    refine ⟨0, by omega, rfl, fun j h hj => by omega, ⟨?_, ?_⟩, ?_⟩
    · intro i h
      rw [World.cell?_alloc_at _ _ _ _ (by simp only [World.size_alloc])]
      rcases seven h with rfl | rfl | rfl | rfl | rfl | rfl | rfl <;> rfl
    · intro i h k hk
      rcases seven h with rfl | rfl | rfl | rfl | rfl | rfl | rfl
      all_goals
        have hk6 : k = 0 ∨ k = 1 ∨ k = 2 ∨ k = 3 ∨ k = 4 ∨ k = 5 := by have := rowlen _ h; omega
        rcases hk6 with rfl | rfl | rfl | rfl | rfl | rfl
        all_goals first | (exact absurd hk (by decide)) | skip
        all_goals
          repeat (rw [World.cell?_alloc_past _ _ _ (by simp only [World.size_alloc]; omega)])
          rw [World.cell?_alloc_at _ _ _ _ (by first | rfl | (simp only [World.size_alloc]; done) | (simp only [World.size_alloc]; omega))]
          rfl
    · exact (((((((((Below.refl _ _).alloc (Nat.le_refl _) _).alloc (by simp) _).alloc (by simp; omega) _).alloc (by simp; omega) _).alloc (by simp; omega) _).alloc (by simp; omega) _).alloc (by simp; omega) _).alloc (by simp; omega) _)
  case round =>
    obtain ⟨i, hi, rfl, hm, hT, hbel⟩ := hrel
    by_cases hi7 : i < 7
    · have hr := hT.row i hi7
      have hl := rowlen i hi7
      obtain ⟨n, hn⟩ : ∃ n, n = (rowT i).length := ⟨_, rfl⟩
      rw [← hn] at hr hl
      have HN := Lib.hid hn
      have HM := Lib.hid hm
      clear hn hm
      have d1 : decide ((i : Int) < 7) = true := by simp; omega
      go_wp2
      go_loop [5] (fun vk => ∃ k : Nat, k ≤ n ∧ vk = .int .i64 k ∧ ∀ j, j < k → (rowT i).getD j [] ≠ s.toList) (fun vk => n - (intOf vk).toNat)
      case atStart => exact ⟨0, by omega, rfl, fun j hj => by omega⟩
      case round =>
        obtain ⟨k, hk, rfl, hmk⟩ := hrel
        have HMK := Lib.hid hmk
        clear hmk
        by_cases hkn : k < n
        · have cs := hT.str i hi7 k (by rw [← HN.out]; exact hkn)
          obtain ⟨sk, hsk⟩ : ∃ sk : ByteArray, sk = ⟨((rowT i).getD k []).toArray⟩ := ⟨_, rfl⟩
          have es : sk.toList = (rowT i).getD k [] := by rw [ByteArray.toList_eq, hsk]
          rw [← hsk] at cs
          clear hsk
          have HES := Lib.hid es
          clear es
          by_cases heq : (sk.toList == s.toList) = true
          · go_wp2
            go_ret
            have h1 : (rowT i).getD k [] = s.toList := by rw [← HES.out]; simpa using heq
            exact ⟨by rw [lvl_at hi7 HM.out (hit_row (by rw [← HN.out]; exact hkn) h1)]; rfl, hbel⟩
          · have heq' : (sk.toList == s.toList) = false := by simpa using heq
            clear heq
            go_wp2
            go_round
            case rel => exact ⟨k + 1, by omega, by go_num, fun j hj => by
              by_cases e : j = k
              · subst e; rw [← HES.out]; exact beq_eq_false_iff_ne.1 heq'
              · exact HMK.out j (by omega)⟩
            case measure => simp [intOf]; omega
        · go_wp2
          go_roundw
          case rel => exact ⟨i + 1, by omega, by go_num, fun j h hj => by
            by_cases e : j = i
            · subst e; exact miss_row (fun k' hk' => HMK.out k' (by have := HN.out; omega))
            · exact HM.out j h (by omega), hT, hbel⟩
          case measure => simp [intOf]; omega
    · have he : i = 7 := by omega
      subst he
      go_wp2
      go_ret
      exact ⟨by rw [lvl_8 hm]; rfl, hbel⟩
end Go.Proofs.Ythibocdpbekbcaa
