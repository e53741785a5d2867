/- Plain: words unpacked into bytes; when packing gives the words back. -/
import Derived.Test.YtecpnlhjjmcllaaP02p
import Derived.Laws.BytesArg
import Derived.WideShapes
namespace Go.Proofs.Ytecpnlhjjmcllaa
/-- byte i of words -/
def byteAt (ls : List Nat) (i : Nat) : Nat := ls.getD (i / 8) 0 / 256 ^ (i % 8) % 256
def bytesOf (ls : List Nat) (n : Nat) : List Nat := (List.range n).map (byteAt ls)
theorem bytesOf_len (ls : List Nat) (n : Nat) : (bytesOf ls n).length = n := by simp [bytesOf]
theorem byteAt_lt (ls : List Nat) (i : Nat) : byteAt ls i < 256 := Nat.mod_lt _ (by omega)
theorem leN_bytes (x : Nat) : ∀ k, leN ((List.range k).map fun i => x / 256 ^ i % 256) = x % 256 ^ k
  | 0 => by simp [leN, Nat.mod_one]
  | k + 1 => by
    rw [List.range_succ, List.map_append, leN_app, leN_bytes x k]
    simp only [List.length_map, List.length_range, List.map_cons, List.map_nil, leN, Nat.mul_zero, Nat.add_zero]
    rw [Nat.pow_succ, Nat.mod_mul]
theorem chunk_bytesOf (ls : List Nat) (n j : Nat) : chunk (bytesOf ls n) j = (List.range (min 8 (n - 8 * j))).map fun i => ls.getD j 0 / 256 ^ i % 256 := by
  apply List.ext_getElem
  · simp [chunk, bytesOf]
  · intro i h1 h2
    simp only [List.length_map, List.length_range] at h2
    simp only [chunk, bytesOf, byteAt, List.getElem_take, List.getElem_drop, List.getElem_map, List.getElem_range]
    rw [show (8 * j + i) / 8 = j from by omega, show (8 * j + i) % 8 = i from by omega]
theorem leN_chunk_bytesOf (ls : List Nat) (n j : Nat) : leN (chunk (bytesOf ls n) j) = ls.getD j 0 % 256 ^ (min 8 (n - 8 * j)) := by
  rw [chunk_bytesOf, leN_bytes]
theorem mod_of_zero (x k : Nat) : ∀ d, (∀ i, k ≤ i → i < k + d → x / 256 ^ i % 256 = 0) → x % 256 ^ (k + d) = x % 256 ^ k
  | 0, _ => rfl
  | d + 1, h => by
    rw [← Nat.add_assoc, Nat.pow_succ, Nat.mod_mul, h (k + d) (by omega) (by omega), Nat.mul_zero, Nat.add_zero]
    exact mod_of_zero x k d (fun i h1 h2 => h i h1 (by omega))
/-- the words are what their first n bytes pack to -/
def fullN (ls : List Nat) (n : Nat) : Prop := 8 * ls.length < n + 8 ∧ n ≤ 8 * ls.length ∧ ∀ i, n ≤ i → i < 8 * ls.length → byteAt ls i = 0
theorem pack_bytesOf (ls : List Nat) (n : Nat) (hl : ∀ x ∈ ls, x < 18446744073709551616) (hn : n ≤ 8 * ls.length) : packL (bytesOf ls n) = ls ↔ fullN ls n := by
  constructor
  · intro h
    have hlen := congrArg List.length h
    rw [packL_len, bytesOf_len] at hlen
    refine ⟨by omega, hn, fun i h1 h2 => ?_⟩
    have hj : i / 8 < ls.length := by omega
    have hx : ls[i / 8] = leN (chunk (bytesOf ls n) (i / 8)) := by
      have : (packL (bytesOf ls n))[i / 8]? = some (leN (chunk (bytesOf ls n) (i / 8))) := by
        simp only [packL, List.getElem?_map]
        rw [List.getElem?_range (by rw [bytesOf_len]; omega)]; rfl
      rw [h, List.getElem?_eq_getElem hj] at this
      exact Option.some.inj this
    rw [leN_chunk_bytesOf] at hx
    have hd : ls.getD (i / 8) 0 = ls[i / 8] := by simp [List.getD, hj]
    unfold byteAt
    rw [hd, hx]
    have hlt : ls.getD (i / 8) 0 % 256 ^ min 8 (n - 8 * (i / 8)) < 256 ^ (i % 8) := by
      refine Nat.lt_of_lt_of_le (Nat.mod_lt _ (Nat.pow_pos (by omega))) (Nat.pow_le_pow_right (by omega) (by omega))
    rw [Nat.div_eq_of_lt hlt]
  · rintro ⟨h1, h2, h3⟩
    apply List.ext_getElem
    · rw [packL_len, bytesOf_len]; omega
    · intro j hj1 hj2
      simp only [packL, List.getElem_map, List.getElem_range]
      rw [leN_chunk_bytesOf]
      have hd : ls.getD j 0 = ls[j] := by simp [List.getD, hj2]
      rw [hd]
      have hx : ls[j] < 256 ^ 8 := hl _ (List.getElem_mem hj2)
      by_cases hfull : 8 ≤ n - 8 * j
      · rw [Nat.min_eq_left hfull, Nat.mod_eq_of_lt hx]
      · rw [Nat.min_eq_right (by omega)]
        have hm := mod_of_zero ls[j] (n - 8 * j) (8 - (n - 8 * j)) (fun i k1 k2 => by
          have := h3 (8 * j + i) (by omega) (by omega)
          unfold byteAt at this
          rwa [show (8 * j + i) / 8 = j from by omega, show (8 * j + i) % 8 = i from by omega, hd] at this)
        rw [show n - 8 * j + (8 - (n - 8 * j)) = 8 from by omega, Nat.mod_eq_of_lt hx] at hm
        exact hm.symm
theorem leN_get : ∀ (l : List Nat) (i : Nat), (∀ x ∈ l, x < 256) → leN l / 256 ^ i % 256 = l.getD i 0
  | [], i, _ => by simp [leN]
  | x :: l, 0, h => by
    have := h x (by simp)
    simp only [leN, Nat.pow_zero, Nat.div_one, List.getD_cons_zero]
    omega
  | x :: l, i + 1, h => by
    have hx := h x (by simp)
    have ih := leN_get l i (fun y hy => h y (by simp [hy]))
    simp only [leN, List.getD_cons_succ]
    rw [Nat.pow_succ, Nat.mul_comm (256 ^ i) 256, ← Nat.div_div_eq_div_mul, show (x + 256 * leN l) / 256 = leN l from by omega]
    exact ih
theorem bytes_pack (bs : List Nat) (h : ∀ x ∈ bs, x < 256) : bytesOf (packL bs) bs.length = bs := by
  apply List.ext_getElem
  · simp [bytesOf]
  · intro i h1 h2
    simp only [bytesOf, List.getElem_map, List.getElem_range, byteAt]
    have hj : i / 8 < (packL bs).length := by rw [packL_len]; omega
    have e : (packL bs).getD (i / 8) 0 = leN (chunk bs (i / 8)) := by
      simp only [List.getD, List.getElem?_eq_getElem hj, Option.getD_some]
      simp [packL]
    rw [e, leN_get _ _ (fun x hx => h x (chunk_mem hx))]
    simp only [chunk, List.getD, List.getElem?_take, List.getElem?_drop]
    rw [if_pos (by omega), show 8 * (i / 8) + i % 8 = i from by omega]
    simp [h2]
theorem packL_lt (bs : List Nat) (h : ∀ x ∈ bs, x < 256) : ∀ x ∈ packL bs, x < 18446744073709551616 := by
  intro x hx
  simp only [packL, List.mem_map] at hx
  obtain ⟨j, _, rfl⟩ := hx
  have h1 := leN_lt (chunk bs j) (fun y hy => h y (chunk_mem hy))
  have h2 : (chunk bs j).length ≤ 8 := by simp [chunk]; omega
  have h3 : 256 ^ (chunk bs j).length ≤ 256 ^ 8 := Nat.pow_le_pow_right (by omega) h2
  omega
/-- bytes as a text -/
def strN (b : List Nat) : ByteArray := strOfNums (b.map fun x : Nat => (x : Int))
theorem strN_size (b : List Nat) : (strN b).size = b.length := by simp [strN, strOfNums_size]
theorem bytesN_strN (b : List Nat) (h : ∀ x ∈ b, x < 256) : bytesN (strN b) = b := by
  unfold bytesN strN
  rw [strOfNums_data, List.map_map, List.map_map]
  conv => rhs; rw [← List.map_id b]
  apply List.map_congr_left
  intro x hx
  have := h x hx
  simp; omega
theorem strN_bytesN (s : ByteArray) : strN (bytesN s) = s := by
  apply Go.WideShapes.bytes_inj
  unfold bytesN strN
  rw [strOfNums_data, List.map_map, List.map_map]
  conv => rhs; rw [← List.map_id s.data.toList]
  apply List.map_congr_left
  intro x _
  simp
end Go.Proofs.Ytecpnlhjjmcllaa
