/- A logic of trees, part 11: rows: slices whose cells may turn; pure calls that look at a row; boxes that become eternal. -/
import Derived.Test.YtadhakcmfkghbaaAL10
namespace Go.Proofs.Ytadhakcmfkghbaa
open Go.RowKit
section
variable {P : Program} {al : Sl} {M : Mem} {K : AV → Mem → Prop} {o : Oper}
end
def Meets {σ : Type} (alx : σ → Sl) (Mx : σ → Mem) (I : σ → Prop) (al : Sl) (M : Mem) : Prop := ∃ x, I x ∧ SLe al (alx x) ∧ MLe M (Mx x)
theorem c_join {ro : Option Nat} {P : Program} {n : Nat} {ks : List Kont} {Q : Exit → Sl → Mem → Prop} {c c0 : Code} {al : Sl} {M : Mem} {σ : Type} (alx : σ → Sl) (Mx : σ → Mem) (I : σ → Prop) (h : ACode ro P n c (after ro P n [.lp (Meets alx Mx I)] (after ro P n (.code c0 :: ks) Q)) al M) (k : ∀ x, I x → AGo ro P n (.code c0 :: ks) Q (alx x) (Mx x)) : ACode ro P n c (after ro P n (.code c0 :: ks) Q) al M := by
  refine ACode.mono h ?_
  intro e al M he
  cases e with
  | normal =>
    obtain ⟨x, h1, h2, h3⟩ := he
    exact ACode.le h2 h3 (k x h1)
  | exit id => exact he
  | goto l => exact he
  | ret => exact he
  | panic c => exact he
  | outgrown => exact he
theorem c_fixl {ro : Option Nat} {P : Program} {n : Nat} {ks : List Kont} {Q : Exit → Sl → Mem → Prop} {c : Code} {al : Sl} {M : Mem} (t i : Nat) {b : Nat} {cs : List AV} (ht : al.lookup t = some (.ptr b 0)) (hm : M[i]? = some (.loc b cs)) (h : ACode ro P n c (after ro P n ks Q) ((t, .cptr cs) :: al) (M.eraseIdx i)) : ACode ro P n c (after ro P n ks Q) al M := by
  intro B F Mf a w hi hsl
  have hi2 := hi.perm ((perm_at hm).append_right Mf)
  rw [List.cons_append] at hi2
  obtain ⟨hB, hF, vs, T, hb, hr, h1⟩ := hi2.ok _ (List.mem_cons_self)
  have hfar := hi2.far
  rw [List.pairwise_cons] at hfar
  have hext : Ext F (F.new b vs) := by
    intro b' j x hx
    unfold EH.new
    split
    · rename_i e; subst e; rw [hF j] at hx; simp at hx
    · exact hx
  have hinv : Inv B (F.new b vs) (M.eraseIdx i ++ Mf) w := by
    refine ⟨hi.base, fun b' j x hx => ?_, fun r hr' => ?_, hfar.2⟩
    · unfold EH.new at hx
      split at hx
      · rename_i e; subst e
        rw [cell_block hb]; exact hx
      · exact hi.fix b' j x hx
    · refine (hi2.ok r (List.mem_cons_of_mem _ hr')).stay hext (fun b' hb' => ⟨rfl, fun j => ?_⟩)
      unfold EH.new
      rw [if_neg]
      intro e
      subst e
      rcases hfar.1 r hr' with k | k
      · simp [Res.blk] at k
      · exact k hb'.symm
  have := h B (F.new b vs) Mf a w hinv ⟨hsl.1, fun t' v' e => ?_⟩
  · exact Code.wpIn_mono (fun e a w hp => PostD.next (Ds := []) hext (Below.refl _ _) hp) this
  · by_cases q : t' = t
    · subst q
      simp at e
      subst e
      obtain ⟨h4, h5⟩ := hsl.2 t' _ ht
      refine ⟨h4, ?_⟩
      generalize a.tmps.getD t' undef = y at h5
      cases h5
      exact .cptr b 0 (EH.new_lies F b vs) (hr.mono hext) h1
    · have : (t' == t) = false := by simpa using q
      rw [List.lookup, this] at e
      exact ⟨(hsl.2 t' v' e).1, (hsl.2 t' v' e).2.mono hext⟩
end Go.Proofs.Ytadhakcmfkghbaa
