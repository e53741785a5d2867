/- A logic of trees: one cell of a row's element is written; a row that a variable holds stays for good. -/
import Derived.Test.YtflkdojahfmbnaaAL23
import Derived.Test.YtflkdojahfmbnaaAL24
namespace Go.Proofs.Ytflkdojahfmbnaa
open Go.RowKit
theorem set_flat {α : Type} {m : Nat} : ∀ (es : List (List α)) (k f : Nat) (c : α) (cs : List α), (∀ e ∈ es, e.length = m) → es[k]? = some cs → f < m → es.flatten.set (k * m + f) c = (es.set k (cs.set f c)).flatten
  | [], k, f, c, cs, _, h, _ => by simp at h
  | e :: es, 0, f, c, cs, hw, h, hf => by
    have he := hw e (by simp)
    simp at h
    subst h
    rw [List.flatten_cons, Nat.zero_mul, Nat.zero_add, List.set_append_left _ _ (by omega), List.set_cons_zero, List.flatten_cons]
  | e :: es, k + 1, f, c, cs, hw, h, hf => by
    have he := hw e (by simp)
    have hk : (k + 1) * m + f = m + (k * m + f) := by rw [Nat.add_mul]; omega
    have := set_flat es k f c cs (fun x hx => hw x (by simp [hx])) (by simpa using h) hf
    rw [List.flatten_cons, List.set_append_right _ _ (by omega), show (k + 1) * m + f - e.length = k * m + f by omega, this, List.set_cons_succ, List.flatten_cons]
theorem op_store_row1 {P : Program} {o : Oper} {al : Sl} {M : Mem} {K : AV → Mem → Prop} {x y : Operand} {t e : TypeId} {m i g n cap off k f : Nat} {v c : AV} {cs : List AV} {es : List (List AV)} (ho : o.op = .store t x y) (ht : (P.info? t).map (·.size) = some 1) (hx : al.ev x = some (.ptr g off)) (hy : al.ev y = some v) (hf : v.flat = true) (hs : v.cells = [c]) (hm : M[i]? = some (.row e m (rowv g n cap) es)) (hoff : off = k * m + f) (hk : es[k]? = some cs) (hfm : f < m) (q : K (.val undef) (M.set i (.row e m (rowv g n cap) (es.set k (cs.set f c))))) : OpT P o al M K := by
  intro n' B F Mf a w hi hsl ro
  have h := hsl.ev hx
  generalize he : a.eval x = u at h
  cases h with
  | ptr =>
    obtain ⟨h1, h2⟩ := (hsl.ev hy).cells hf
    obtain ⟨cur, hr⟩ := hi.rowAt hm
    have hl1 := h1.len
    rw [hs] at h1 hl1
    have hkl := get_lt hk
    have hcw : cs.length = m := hr.wid _ (List.mem_of_getElem? hk)
    subst hoff
    have hkm : k * m + m ≤ n * m := by
      have : (k + 1) * m ≤ n * m := Nat.mul_le_mul_right _ (by rw [hr.len]; omega)
      rw [Nat.add_mul] at this; omega
    have hnc : n * m ≤ cap * m := Nat.mul_le_mul_right _ hr.fit
    have hcl : cur.toList.length = cap * m := hr.siz
    simp only [List.length_cons, List.length_nil] at hl1
    obtain ⟨w', q1, q2, q3, q4, q5, q6, q7⟩ := storeCells_run (P := P) (a.eval y).cells.toList w cur.toList (k * m + f) 0 (by simpa using hr.at_) h2 (by omega)
    have hrun : (execOp a.eval o).run P w = .ok .skip w' := by
      obtain ⟨inf, hinf, hsz⟩ := Option.map_eq_some_iff.1 ht
      have hcs : (a.eval y).cells.size = 1 := by rw [← Array.length_toList]; omega
      simp [execOp, ho, he, Instr.storeAt, Instr.sureAddr, storeVar, sizeOf, typeInfo, hinf, hsz, hcs, q1]
    have htk : (setL cur.toList (k * m + f) (a.eval y).cells.toList).take (n * m) = setL (cur.toList.take (n * m)) (k * m + f) (a.eval y).cells.toList := take_setL _ _ _ _ (by omega)
    have hrow : RowAt B F w' e m g n cap (es.set k (cs.set f c)) (setL cur.toList (k * m + f) (a.eval y).cells.toList).toArray := by
      refine ⟨by simpa using hr.len, hr.ge, hr.no, fun z hz => ?_, q2, hr.fit, hr.max, by simpa [setL_len] using hr.siz, ?_, ?_⟩
      · rcases List.mem_or_eq_of_mem_set hz with hz | rfl
        · exact hr.wid z hz
        · simpa using hcw
      · rw [← set_flat es k f c cs hr.wid hk hfm, htk]
        exact h1.setL _ hr.rel
      · rw [htk]
        exact setL_one _ _ _ h2 hr.one
    refine wpR_skip hrun ⟨undef, .val undef, _, F, rfl, q, .val _, Ext.refl F, hi.put hm (b := g) rfl rfl hr.no hrow.ok q3 q4, ⟨q5, q6, q7, by omega, fun k hk => q3 k (by have := hr.ge; omega)⟩⟩
theorem Inv.freezeRow {B : Nat} {F : EH} {R : Mem} {w : World} {m : Nat} {e : TypeId} {u : Value} {es : List (List AV)} (hi2 : Inv B F (.row e m u es :: R) w) : ∃ F', Ext F F' ∧ Inv B F' R w ∧ Rel F' (.seq m es) u := by
  obtain ⟨zs, hown, hslack, hrx, hox, hwx⟩ := hi2.ok _ (List.mem_cons_self)
  have hfar := hi2.far
  rw [List.pairwise_cons] at hfar
  have hext : Ext F (F.grow u.ownBlock zs) := by
    intro b j x h
    unfold EH.grow
    split
    · rename_i hh
      rw [hslack b j hh.1.symm] at h; simp at h
    · exact h
  refine ⟨F.grow u.ownBlock zs, hext, ⟨hi2.base, fun b j x h => ?_, fun r hr' => ?_, hfar.2⟩, ?_⟩
  · unfold EH.grow at h
    split at h
    · rename_i hh
      obtain ⟨hb, hj⟩ := hh
      rcases hown.2 with ⟨rfl, _⟩ | ⟨g, cap, cur, rfl, _⟩
      · simp [Value.ownBlock] at hb
      · simp [Value.ownBlock] at hb
        subst hb
        rw [hown.cellAt j (by rw [← hown.1]; exact hj)]; exact h
    · exact hi2.fix b j x h
  · refine (hi2.ok r (List.mem_cons_of_mem _ hr')).stay hext (fun b' hb' => ⟨rfl, fun j => ?_⟩)
    unfold EH.grow
    rw [if_neg]
    rintro ⟨e, _⟩
    rcases hfar.1 r hr' with k | k
    · simp [Res.blk] at k
      rw [k] at e; simp at e
    · exact k (by rw [hb']; exact e.symm)
  · rcases hown.2 with ⟨rfl, h0⟩ | ⟨g, cap, cur, rfl, _, _, hnc, hcm, _⟩
    · have : es = [] := List.eq_nil_of_length_eq_zero h0
      subst this
      exact .seq0 m none 0 (fun _ => rfl)
    · refine .seq (vs := zs) g 0 cap hwx (by omega) (fun j x hx => ?_) (hrx.mono hext) hox (by omega)
      have hj := get_lt hx
      unfold EH.grow
      rw [if_pos ⟨by rw [Value.ownBlock], by omega⟩, Nat.zero_add]
      exact hx
theorem set_same {α : Type} {l : List α} {i : Nat} {x : α} (h : l[i]? = some x) : l.set i x = l := by
  apply List.ext_getElem?
  intro j
  rw [List.getElem?_set]
  split
  · rename_i e
    subst e
    have := get_lt h
    rw [if_pos this, h]
  · rfl
theorem Inv.setLoc {B : Nat} {F : EH} {R : Mem} {w : World} {j k b : Nat} {u : Value} {v : AV} {cs : List AV} (hi : Inv B F R w) (hj : R[j]? = some (.loc b cs)) (hk : cs[k]? = some (.val u)) (hv : Rel F v u) : Inv B F (R.set j (.loc b (cs.set k v))) w := by
  refine ⟨hi.base, hi.fix, fun r hr => ?_, ?_⟩
  · rcases List.mem_or_eq_of_mem_set hr with hr | rfl
    · exact hi.ok r hr
    · obtain ⟨h1, h2, vs, T, h3, h4, h5⟩ := hi.ok _ (List.mem_of_getElem? hj)
      refine ⟨h1, h2, vs, T, h3, ?_, h5⟩
      obtain ⟨x, hx, hr2⟩ := h4.get hk
      cases hr2
      have := h4.set k hv
      rwa [set_same hx] at this
  · have := hi.far
    rw [far_map] at this ⊢
    rw [List.map_set, set_same (by rw [List.getElem?_map, hj]; rfl)]
    exact this
theorem c_frzl {ro : Option Nat} {P : Program} {n : Nat} {ks : List Kont} {Q : Exit → Sl → Mem → Prop} {c : Code} {al : Sl} {M : Mem} {i j k b m : Nat} {e : TypeId} {u : Value} {cs : List AV} {es : List (List AV)} (hm : M[i]? = some (.row e m u es)) (hj : (M.eraseIdx i)[j]? = some (.loc b cs)) (hk : cs[k]? = some (.val u)) (h : ACode ro P n c (after ro P n ks Q) al ((M.eraseIdx i).set j (.loc b (cs.set k (.seq m es))))) : ACode ro P n c (after ro P n ks Q) al M := by
  intro B F Mf a w hi hsl
  have hi2 := hi.perm ((perm_at hm).append_right Mf)
  rw [List.cons_append] at hi2
  obtain ⟨F', h1, h2, h3⟩ := hi2.freezeRow
  have h4 := h2.setLoc (j := j) (by rw [List.getElem?_append_left (get_lt hj)]; exact hj) hk h3
  rw [List.set_append_left _ _ (get_lt hj)] at h4
  exact Code.wpIn_mono (fun e a w hp => PostD.next (Ds := []) h1 (Below.refl _ _) hp) (h B F' Mf a w h4 (hsl.mono h1))
end Go.Proofs.Ytflkdojahfmbnaa
