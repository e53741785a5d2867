/- Plain: bytes packed into words, eight a word, the first byte lowest. -/
import Derived.Test.YtecpnlhjjmcllaaP02
namespace Go.Proofs.Ytecpnlhjjmcllaa
/-- bytes as one number, the first lowest -/
def leN : List Nat → Nat
  | [] => 0
  | b :: bs => b + 256 * leN bs
theorem leN_app (a : List Nat) : ∀ b : List Nat, leN (a ++ b) = leN a + 256 ^ a.length * leN b := by
  induction a with
  | nil => intro b; simp [leN]
  | cons x a ih =>
    intro b
    simp only [List.cons_append, leN, ih, List.length_cons, Nat.pow_succ]
    rw [Nat.mul_add, ← Nat.mul_assoc, Nat.mul_comm 256 (256 ^ a.length)]
    omega
theorem leN_lt (a : List Nat) (h : ∀ x ∈ a, x < 256) : leN a < 256 ^ a.length := by
  induction a with
  | nil => simp [leN]
  | cons x a ih =>
    have h1 := h x (by simp)
    have h2 := ih (fun y hy => h y (by simp [hy]))
    simp only [leN, List.length_cons, Nat.pow_succ]
    omega
def chunk (s : List Nat) (j : Nat) : List Nat := (s.drop (8 * j)).take 8
/-- the words of bytes -/
def packL (s : List Nat) : List Nat := (List.range ((s.length + 7) / 8)).map fun j => leN (chunk s j)
/-- the words of the first k bytes, in so many places -/
def packTo (s : List Nat) (k n : Nat) : List Nat := (List.range n).map fun j => leN (chunk (s.take k) j)
theorem packTo_len (s : List Nat) (k n : Nat) : (packTo s k n).length = n := by simp [packTo]
theorem packL_len (s : List Nat) : (packL s).length = (s.length + 7) / 8 := by simp [packL]
theorem packTo_zero (s : List Nat) (n : Nat) : packTo s 0 n = List.replicate n 0 := by
  simp only [packTo, List.take_zero]
  rw [List.eq_replicate_iff]
  simp [chunk, leN]
theorem packTo_full (s : List Nat) (k : Nat) (h : s.length ≤ k) : packTo s k ((s.length + 7) / 8) = packL s := by
  simp only [packTo, packL, List.take_of_length_le h]
theorem packTo_get (s : List Nat) (k n j : Nat) (h : j < n) : (packTo s k n)[j]? = some (leN (chunk (s.take k) j)) := by
  simp [packTo, h]
theorem chunk_take_of_le (s : List Nat) (k j : Nat) (h : k ≤ 8 * j) : chunk (s.take k) j = [] := by
  simp only [chunk]
  rw [List.drop_eq_nil_of_le (by simp; omega)]
  rfl
theorem chunk_other (s : List Nat) (k j : Nat) (h : j ≠ k / 8) : chunk (s.take (k + 1)) j = chunk (s.take k) j := by
  by_cases h1 : k < 8 * j
  · rw [chunk_take_of_le _ _ _ (by omega), chunk_take_of_le _ _ _ (by omega)]
  · simp only [chunk, List.drop_take, List.take_take]
    rw [Nat.min_eq_left (by omega), Nat.min_eq_left (by omega)]
theorem chunk_step (s : List Nat) (k : Nat) (h : k < s.length) : chunk (s.take (k + 1)) (k / 8) = chunk (s.take k) (k / 8) ++ [s[k]] := by
  simp only [chunk, List.drop_take, List.take_take]
  rw [Nat.min_eq_right (by omega), Nat.min_eq_right (by omega), show k + 1 - 8 * (k / 8) = (k - 8 * (k / 8)) + 1 from by omega]
  rw [List.take_succ_eq_append_getElem (by simp; omega)]
  simp only [List.getElem_drop]
  congr 3
  omega
theorem chunk_len (s : List Nat) (k : Nat) (h : k ≤ s.length) : (chunk (s.take k) (k / 8)).length = k % 8 := by
  simp only [chunk, List.length_take, List.length_drop]
  omega
theorem chunk_mem {s : List Nat} {j x : Nat} (h : x ∈ chunk s j) : x ∈ s := List.mem_of_mem_drop (List.mem_of_mem_take h)
theorem word_step (s : List Nat) (k : Nat) (h : k < s.length) : leN (chunk (s.take (k + 1)) (k / 8)) = leN (chunk (s.take k) (k / 8)) + 256 ^ (k % 8) * s[k] := by
  rw [chunk_step s k h, leN_app, chunk_len s k (by omega)]
  simp [leN]
theorem word_lt (s : List Nat) (k : Nat) (hs : ∀ x ∈ s, x < 256) (h : k ≤ s.length) : leN (chunk (s.take k) (k / 8)) < 256 ^ (k % 8) := by
  have := leN_lt (chunk (s.take k) (k / 8)) (fun x hx => hs x (List.mem_of_mem_take (chunk_mem hx)))
  rwa [chunk_len s k h] at this
theorem packTo_step (s : List Nat) (k n : Nat) (h : k < s.length) : packTo s (k + 1) n = (packTo s k n).set (k / 8) (leN (chunk (s.take k) (k / 8)) + 256 ^ (k % 8) * s[k]) := by
  apply List.ext_getElem
  · simp [packTo]
  · intro j h1 h2
    rw [List.getElem_set]
    simp only [packTo, List.getElem_map, List.getElem_range]
    split
    · rename_i e; rw [← e, word_step s k h]
    · rename_i e; rw [chunk_other s k j (by omega)]
/-- the bytes of a text -/
def bytesN (s : ByteArray) : List Nat := s.data.toList.map UInt8.toNat
theorem bytesN_len (s : ByteArray) : (bytesN s).length = s.size := by simp [bytesN]
theorem bytesN_get (s : ByteArray) (k : Nat) (h : k < s.size) (h' : k < (bytesN s).length) : (bytesN s)[k] = (s[k]).toNat := by
  simp [bytesN]; rfl
theorem bytesN_lt (s : ByteArray) : ∀ x ∈ bytesN s, x < 256 := by
  intro x hx
  simp only [bytesN, List.mem_map] at hx
  obtain ⟨b, _, rfl⟩ := hx
  exact b.toNat_lt
theorem or_byte (u b r : Nat) (hr : r < 8) (hb : b < 256) (hu : u < 256 ^ r) :
    bits .or .u64 (u : Int) (IntKind.u64.wrap (IntKind.u64.wrap (b : Int) * 2 ^ (8 * r))) = ((u + 256 ^ r * b : Nat) : Int) := by
  have hp : 256 ^ r = 2 ^ (8 * r) := by rw [Nat.pow_mul]
  have hp2 : 2 ^ (8 * r) ≤ 2 ^ 56 := Nat.pow_le_pow_right (by omega) (by omega)
  have hc : ((2 : Int) ^ (8 * r)) = ((2 ^ (8 * r) : Nat) : Int) := by simp
  rw [hp] at hu ⊢
  rw [hc]
  obtain ⟨q, hq⟩ : ∃ q : Nat, q = 2 ^ (8 * r) := ⟨_, rfl⟩
  have hm : q * b ≤ 72057594037927936 * 255 := Nat.mul_le_mul (by omega) (by omega)
  have hu' : u < q := by omega
  have hle : q ≤ 72057594037927936 := by omega
  have e1 : IntKind.u64.wrap (b : Int) = b := by rw [IntKind.wrap_u64]; omega
  have e2 : IntKind.u64.wrap ((b : Int) * (q : Int)) = ((q * b : Nat) : Int) := by
    have : (b : Int) * (q : Int) = ((q * b : Nat) : Int) := by rw [Nat.mul_comm]; simp
    rw [this, IntKind.wrap_u64]
    generalize q * b = z at *
    omega
  rw [← hq, e1, e2, u64_or_nat _ _ (by omega) (by omega), Nat.or_comm, nat_join (8 * r)]
  · rw [Nat.add_comm]
  · rw [← hq]; exact Nat.mul_mod_right q b
  · omega
theorem u64s_set (l : List Nat) (j x : Nat) : (l.map fun n : Nat => Value.int .u64 (n : Int)).set j (.int .u64 (x : Int)) = (l.set j x).map fun n : Nat => Value.int .u64 (n : Int) := by
  rw [List.map_set]
end Go.Proofs.Ytecpnlhjjmcllaa
