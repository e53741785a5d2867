/- Plain: the digits of a number, as int63.Text lays them from the end of an array. -/
import Derived.Laws.BytesArg
namespace Go.Proofs.Ytjgjnheeohfmmaa
/-- the digits of u ahead of acc, at least one -/
def digs : Nat → Nat → List Int → List Int
  | 0, _, acc => acc
  | f + 1, u, acc => if u / 10 = 0 then (48 + (u : Int) % 10) :: acc else digs f (u / 10) ((48 + (u : Int) % 10) :: acc)
def txt (z : Int) : ByteArray := strOfNums (if z < 0 then 45 :: digs 20 (-z).toNat [] else digs 20 z.toNat [])
theorem txt_neg {z : Int} (h : z < 0) {ds : List Int} (hd : digs 20 (-z).toNat [] = ds) : txt z = strOfNums (45 :: ds) := by
  unfold txt; rw [if_pos h, hd]
theorem txt_pos {z : Int} (h : 0 ≤ z) {ds : List Int} (hd : digs 20 z.toNat [] = ds) : txt z = strOfNums ds := by
  unfold txt; rw [if_neg (by omega), hd]
/-- the array from place a on holds acc; what is left to be laid is u -/
structure TextAt (U : Nat) (C : Array Value) (a u : Nat) (acc : List Int) : Prop where
  size : C.size = 20
  lo : 1 ≤ a
  hi : a ≤ 20
  len : acc.length = 20 - a
  cells : ∀ i, i < acc.length → C[a + i]? = some (.int .u8 (acc.getD i 0))
  small : u < 10 ^ (a - 1)
  le : u ≤ U
  more : a = 20 ∨ 0 < u
  rest : digs a u acc = digs 20 U []
theorem TextAt.start {U : Nat} {C : Array Value} (hC : C.size = 20) (h : U < 10 ^ 19) : TextAt U C 20 U [] :=
  ⟨hC, by omega, by omega, rfl, fun i hi => by simp at hi, h, Nat.le_refl _, Or.inl rfl, rfl⟩
theorem TextAt.two {U : Nat} {C : Array Value} {a u : Nat} {acc : List Int} (h : TextAt U C a u acc) : 2 ≤ a := by
  rcases h.more with e | e
  · omega
  · have hs := h.small
    have hl := h.lo
    rcases Nat.lt_or_ge a 2 with k | k
    · have : a = 1 := by omega
      subst this
      simp at hs
      omega
    · exact k
theorem cells_put {C : Array Value} {a : Nat} {acc : List Int} {x : Int} (hC : a ≤ C.size) (ha : 1 ≤ a)
    (h : ∀ i, i < acc.length → C[a + i]? = some (.int .u8 (acc.getD i 0))) :
    ∀ i, i < (x :: acc).length → (C.setIfInBounds (a - 1) (.int .u8 x))[a - 1 + i]? = some (.int .u8 ((x :: acc).getD i 0)) := by
  intro i hi
  cases i with
  | zero => rw [Array.getElem?_setIfInBounds]; rw [if_pos (by omega), if_pos (by omega)]; simp
  | succ i =>
    simp only [List.length_cons] at hi
    rw [Array.getElem?_setIfInBounds, if_neg (by omega)]
    have := h i (by omega)
    rw [show a - 1 + (i + 1) = a + i from by omega, this]
    simp
theorem TextAt.step {U : Nat} {C : Array Value} {a u : Nat} {acc : List Int} (h : TextAt U C a u acc) (hu : u / 10 ≠ 0) :
    TextAt U (C.setIfInBounds (a - 1) (.int .u8 (48 + (u : Int) % 10))) (a - 1) (u / 10) ((48 + (u : Int) % 10) :: acc) := by
  have h2 := h.two
  have hs := h.small
  have hC := h.size
  have hhi := h.hi
  obtain ⟨b, rfl⟩ : ∃ b, a = b + 2 := ⟨a - 2, by omega⟩
  have hlen := h.len
  refine ⟨by simp [hC], by omega, by omega, by simp; omega, cells_put (by omega) (by omega) h.cells, ?_, (by have := h.le; omega), Or.inr (by omega), ?_⟩
  · show u / 10 < 10 ^ (b + 2 - 1 - 1)
    have e : (10 : Nat) ^ (b + 2 - 1) = 10 ^ b * 10 := by rw [show b + 2 - 1 = b + 1 from by omega, Nat.pow_succ]
    rw [show b + 2 - 1 - 1 = b from by omega]
    rw [e] at hs
    generalize (10 : Nat) ^ b = z at *
    omega
  · have hr := h.rest
    rw [← hr, show b + 2 - 1 = b + 1 from by omega, show b + 2 = (b + 1) + 1 from by omega]
    conv => rhs; rw [digs, if_neg hu]
theorem TextAt.last {U : Nat} {C : Array Value} {a u : Nat} {acc : List Int} (h : TextAt U C a u acc) (hu : u / 10 = 0) :
    digs 20 U [] = (48 + (u : Int) % 10) :: acc := by
  have h2 := h.two
  obtain ⟨b, rfl⟩ : ∃ b, a = b + 1 := ⟨a - 1, by omega⟩
  rw [← h.rest, digs, if_pos hu]
end Go.Proofs.Ytjgjnheeohfmmaa
