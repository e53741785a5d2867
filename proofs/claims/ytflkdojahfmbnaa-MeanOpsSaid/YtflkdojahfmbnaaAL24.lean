/- A logic of trees: drawn regions order by order, weaker slots; rows from nil. -/
import Derived.Test.YtflkdojahfmbnaaAL16
import Derived.Test.YtflkdojahfmbnaaAL23
namespace Go.Proofs.Ytflkdojahfmbnaa
open Go.RowKit
section
variable {ro : Option Nat} {P : Program} {n : Nat} {l : List Oper} {QQ : Exit → Sl → Mem → Prop} {fuel fuel' : Nat} {lis lis' : List Bool} {al al' : Sl} {M M' : Mem}
theorem ADraw.le (hs : SLe al al') (hm : MLe M M') (h : ADraw ro P n l QQ fuel lis al' M') : ADraw ro P n l QQ fuel lis al M :=
  fun B F0 Mf w0 ds F a w hE hi hsl => h B F0 Mf w0 ds F a w hE (hi.le hm) (hsl.le hs)
/-- a place that many orders come through -/
theorem ADraw.via (new : Sl) (fuel' : Nat) (lis' : List Bool) (h : (∀ al', SLe al' (new ++ al) → ADraw ro P n l QQ fuel' lis' al' M) → ADraw ro P n l QQ fuel lis al M) (k : ADraw ro P n l QQ fuel' lis' (new ++ al) M) : ADraw ro P n l QQ fuel lis al M :=
  h fun _ hs => ADraw.le hs (MLe.refl _) k
end
theorem c_treef {ro : Option Nat} {P : Program} {n : Nat} {l : List Oper} {QQ : Exit → Sl → Mem → Prop} {al : Sl} {M : Mem} {id : Nat} (fuel : Nat) (lis : List Bool) (hmix : P.follows .mixedOrders = true) (hf : l.length = fuel) (hl : List.replicate l.length false = lis) (h : ADraw ro P n l QQ fuel lis al M) : ACode ro P n (.region id l.toArray true) QQ al M := by
  subst hf hl
  exact c_tree hmix h
section
variable {P : Program} {o : Oper} {al : Sl} {M : Mem} {K : AV → Mem → Prop}
/-- append to a row that may be nil: something is added -/
theorem op_append_rowh {s x : Operand} {t e : TypeId} {z u : Value} {m bytes i : Nat} {v : AV} {es es' : List (List AV)} (E : ElT P t e z m bytes) (ho : o.op = .call { callee := .builtin .append, args := #[s, x], argTypes := #[t, t] }) (hs : al.ev s = some (.val u)) (hm : M[i]? = some (.row e m u es)) (hx : al.ev x = some v) (hv : IsSeq v m es') (hn : es.length + es'.length ≤ 100000000000) (h0 : 0 < es.length + es'.length)
    (q : ∀ g cap, K (.val (rowv g (es.length + es'.length) cap)) (M.set i (.row e m (rowv g (es.length + es'.length) cap) (es ++ es')))) : OpT P o al M K := by
  intro n B F Mf a w hi hsl ro
  have hil : i < M.length := get_lt hm
  have hu := ev_val hsl hs
  have hi2 := hi.perm ((perm_at hm).append_right Mf)
  rw [List.cons_append] at hi2
  obtain ⟨u', w', hrun, hi', hb⟩ := row_core (ty := o.type) E hi2 (hv.rel (hsl.ev hx)) hn
  have hform : ∃ g cap, u' = rowv g (es.length + es'.length) cap := by
    obtain ⟨xs, hown, _⟩ := hi'.ok _ (List.mem_cons_self)
    rw [List.length_append] at hown
    rcases hown.2 with ⟨rfl, h0⟩ | ⟨g, cap, cur, rfl, _⟩
    · omega
    · exact ⟨g, cap, rfl⟩
  obtain ⟨g, cap, rfl⟩ := hform
  refine wpR_value (w' := w') ?_ ⟨_, _, _, F, rfl, q g cap, .val _, Ext.refl F, ?_, hb⟩
  · simp [execOp, ho, resolve, invoke, builtin, hu, hrun]
  · refine hi'.perm ?_
    rw [← List.cons_append]
    exact ((perm_set _ hil).append_right Mf).symm
end
end Go.Proofs.Ytflkdojahfmbnaa
