/- Arguments of the layers' types, opened: types, texts, substitutions. -/
import Derived.Test.YtjgjnheeohfmmaaAX
import Derived.Test.YtjgjnheeohfmmaaPU
import Derived.Test.YtjgjnheeohfmmaaTF
namespace Go.Proofs.Ytjgjnheeohfmmaa
open Go.RowKit
section
variable {P : Program}
theorem shape_int {fuel : Nat} {t : TypeId} {k : IntKind} {cs : List AV} (ht : P.underlying t = some (.int k)) (h : ShapeC P fuel t cs) : ∃ x, (k.min ≤ x ∧ x ≤ k.max) ∧ cs = [.val (.int k x)] := by
  cases fuel with
  | zero => unfold ShapeC at h; exact h.elim
  | succ n => unfold ShapeC at h; rw [ht] at h; exact h
theorem shape_str {fuel : Nat} {t : TypeId} {cs : List AV} (ht : P.underlying t = some .string) (h : ShapeC P fuel t cs) : ∃ s : ByteArray, s.size ≤ maxLen ∧ cs = [.val (.string s)] := by
  cases fuel with
  | zero => unfold ShapeC at h; exact h.elim
  | succ n => unfold ShapeC at h; rw [ht] at h; exact h
theorem shape_bool {fuel : Nat} {t : TypeId} {cs : List AV} (ht : P.underlying t = some .bool) (h : ShapeC P fuel t cs) : ∃ b, cs = [.val (.bool b)] := by
  cases fuel with
  | zero => unfold ShapeC at h; exact h.elim
  | succ n => unfold ShapeC at h; rw [ht] at h; exact h
theorem shape_slice {fuel : Nat} {t e : TypeId} {cs : List AV} (ht : P.underlying t = some (.slice e)) (h : ShapeC P fuel t cs) : ∃ n es, n < fuel ∧ cs = [.seq (P.cellsOf e) es] ∧ ∀ x ∈ es, ShapeC P n e x := by
  cases fuel with
  | zero => unfold ShapeC at h; exact h.elim
  | succ n =>
    unfold ShapeC at h
    rw [ht] at h
    obtain ⟨es, h1, _, h2⟩ := h
    exact ⟨n, es, by omega, h1, h2⟩
theorem shape_struct {fuel : Nat} {t : TypeId} {fs : Array Field} {cs : List AV} (ht : P.underlying t = some (.struct fs)) (h : ShapeC P fuel t cs) : ∃ n, n < fuel ∧ ShapeF P n fs.toList cs := by
  cases fuel with
  | zero => unfold ShapeC at h; exact h.elim
  | succ n => unfold ShapeC at h; rw [ht] at h; exact ⟨n, by omega, h⟩
/-- a row of elements that are all of a kind -/
theorem pick_all {α : Type} {f : α → List AV} : ∀ {es : List (List AV)}, (∀ x ∈ es, ∃ a, x = f a) → ∃ l : List α, es = l.map f
  | [], _ => ⟨[], rfl⟩
  | e :: es, h => by
    obtain ⟨a, ha⟩ := h e (by simp)
    obtain ⟨l, hl⟩ := pick_all (fun x hx => h x (by simp [hx]) : ∀ x ∈ es, ∃ a, x = f a)
    exact ⟨a :: l, by rw [ha, hl]; rfl⟩
end
theorem cellsOf_ty : Try.prog.cellsOf 24 = 4 := by kernel_rfl
theorem cellsOf_str : Try.prog.cellsOf 9 = 1 := by kernel_rfl
theorem shape_ty (fuel : Nat) : ∀ cs, ShapeC Try.prog fuel 24 cs → ∃ t : Ty, cs = t.cells := by
  induction fuel using Nat.strongRecOn with
  | _ fuel ih =>
    intro cs h
    obtain ⟨n, hn, h⟩ := shape_struct Try.underlying24 h
    simp only [ShapeF] at h
    obtain ⟨a1, b1, rfl, h1, a2, b2, rfl, h2, a3, b3, rfl, h3, a4, b4, rfl, h4, rfl⟩ := h
    obtain ⟨k, _, rfl⟩ := shape_int tu_3 h1
    obtain ⟨s, _, rfl⟩ := shape_str tu_9 h2
    obtain ⟨m, _, rfl⟩ := shape_int tu_3 h3
    obtain ⟨n', es, hn', rfl, h5⟩ := shape_slice tu_22 h4
    obtain ⟨ts, rfl⟩ := pick_all (f := Ty.cells) (fun x hx => ih n' (by omega) x (h5 x hx))
    refine ⟨.mk k s m ts, ?_⟩
    rw [cellsOf_ty, ← Ty.cellss_map]
    rfl
theorem shape_tys {fuel : Nat} {cs : List AV} (h : ShapeC Try.prog fuel 22 cs) : ∃ ts : List Ty, cs = [.seq 4 (Ty.cellss ts)] := by
  obtain ⟨n', es, _, rfl, h5⟩ := shape_slice tu_22 h
  obtain ⟨ts, rfl⟩ := pick_all (f := Ty.cells) (fun x hx => shape_ty n' x (h5 x hx))
  exact ⟨ts, by rw [cellsOf_ty, ← Ty.cellss_map]⟩
theorem shape_strs {fuel : Nat} {cs : List AV} (h : ShapeC Try.prog fuel 27 cs) : ∃ ts : List ByteArray, cs = [.seq 1 (strs ts)] := by
  obtain ⟨n', es, _, rfl, h5⟩ := shape_slice tu_27 h
  obtain ⟨ts, rfl⟩ := pick_all (f := fun s : ByteArray => [AV.val (.string s)]) (fun x hx => by obtain ⟨s, _, rfl⟩ := shape_str tu_9 (h5 x hx); exact ⟨s, rfl⟩)
  exact ⟨ts, by rw [cellsOf_str]; rfl⟩
end Go.Proofs.Ytjgjnheeohfmmaa
