/- Arguments as trees: what a reading of an argument says, in the words of the logic; and how a law's call ends. -/
import Derived.Test.YtadhakcmfkghbaaAL9
import Derived.ProofKit
import Derived.ChangeArms
namespace Go.Proofs.Ytadhakcmfkghbaa
open Go.RowKit
def cellF (w : World) : EH := fun b i => w.cell? ⟨b, i, none⟩
def fsOk (P : Program) (S : List TypeId) : Nat → List Field → Nat → Bool
  | k, [], n => k == n
  | k, f :: fs, n => f.offset == k && S.contains f.type && fsOk P S (k + P.cellsOf f.type) fs n
def closedT (P : Program) (S : List TypeId) : Bool := S.all fun t => match P.underlying t with
  | some .bool => true
  | some (.int _) => true
  | some .string => true
  | some (.slice e) => S.contains e && Nat.blt 0 (P.cellsOf e)
  | some (.struct fs) => fsOk P S 0 fs.toList (P.cellsOf t)
  | _ => false
section
variable {H : Type} {enc : TypeId × Value → H} {P : Program} {w : World} {sp : Nat → Bool} {held : Bool}
theorem cells_get {a : Addr} {m : Nat} {ws : List Value} (h : w.cells? 0 a m = some ws) : ws.length = m ∧ ∀ j x, ws[j]? = some x → w.cell? (a.add j) = some x := by
  unfold World.cells? at h
  rw [if_pos (Nat.zero_le _)] at h
  have hl : ws.length = m := by simpa using mapM_some_length h
  refine ⟨hl, fun j x hx => ?_⟩
  have hj : j < m := by
    rw [← hl]
    rcases Nat.lt_or_ge j ws.length with k | k
    · exact k
    · rw [List.getElem?_eq_none k] at hx; simp at hx
  have := mapM_some_get h j j (by simp [hj])
  rw [this, hx]
theorem Inv.start (w : World) : Inv w.heap.size (cellF w) [] w := ⟨Nat.le_refl _, fun _ _ _ h => h, by simp, List.Pairwise.nil⟩
theorem law_run {f : FuncId} {vs : List AV} {us : List Value} (h : ACall P f vs [] (fun v _ => v = .val (.bool true))) (hr : Rels (cellF w) vs us) : Calls P f us.toArray w fun e w' => e = .returned (.bool true) ∧ Below w.heap.size w w' := by
  refine (h.run w.heap.size (cellF w) [] w us (by simpa using Inv.start w) hr).mono ?_
  rintro e w' ⟨u, v, M', F', rfl, rfl, h3, _, _, h6⟩
  cases h3
  exact ⟨rfl, h6⟩
theorem rel_agg {F : EH} {v : Value} {cs : List AV} (hv : ∃ a, v = .agg a) (h : Rels F cs v.cells.toList) (h1 : Ones v.cells.toList) : Rel F (.agg cs) v := by
  obtain ⟨a, rfl⟩ := hv
  have := Rel.agg h h1
  simpa [Value.cells] using this
end
end Go.Proofs.Ytadhakcmfkghbaa
