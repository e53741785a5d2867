/- The logic of trees, part 14: array literals. -/
import Derived.Test.YtecpnlhjjmcllaaAL13
namespace Go.Proofs.Ytecpnlhjjmcllaa
open Go.RowKit
def bldF (size : Nat) : List AV → List (Nat × AV) → Option (List AV)
  | cs, [] => some cs
  | cs, (i, v) :: rest => if v.cells.length = size ∧ i * size + size ≤ cs.length ∧ v.flat = true then bldF size (setL cs (i * size) v.cells) rest else none
theorem bldF_run {F : EH} {size : Nat} : ∀ (ps : List (Nat × AV)) (qs : List (Nat × Value)) (cs : List AV) (vs : List Value) (cs' : List AV), Rels F cs vs → Ones vs → ps.map (·.1) = qs.map (·.1) → Rels F (ps.map (·.2)) (qs.map (·.2)) → bldF size cs ps = some cs' →
    ∃ vs', Instr.fill (fun i => some (i * size, size)) vs.toArray qs = some vs'.toArray ∧ Rels F cs' vs' ∧ Ones vs'
  | [], [], cs, vs, cs', h, h1, _, _, hb => by
    simp [bldF] at hb; subst hb
    exact ⟨vs, by simp [Instr.fill], h, h1⟩
  | [], _ :: _, _, _, _, _, _, h, _, _ => by simp at h
  | _ :: _, [], _, _, _, _, _, h, _, _ => by simp at h
  | (i, v) :: ps, (j, u) :: qs, cs, vs, cs', h, h1, hk, hr, hb => by
    simp only [List.map_cons, List.cons.injEq] at hk
    obtain ⟨rfl, hk⟩ := hk
    simp only [List.map_cons] at hr
    cases hr with
    | cons hr hrs =>
      rw [bldF] at hb
      split at hb
      · rename_i hc
        obtain ⟨c1, c2, c3⟩ := hc
        obtain ⟨k1, k2⟩ := hr.cells c3
        have hlen := h.len
        obtain ⟨vs', q1, q2, q3⟩ := bldF_run ps qs _ (setL vs (i * size) u.cells.toList) cs' (k1.setL (i * size) h) (setL_one _ _ _ k2 h1) hk hrs hb
        refine ⟨vs', ?_, q2, q3⟩
        rw [fill_one _ vs i (i * size) size u qs rfl (by have := k1.len; simp at this; omega) (by omega)]
        exact q1
      · simp at hb
theorem Le.own_less {u : Value} {m : Nat} {as bs : List (List AV)} (h : Less as bs) : Le (.own u m as) (.own u m bs) := fun F x k => by
  cases k with
  | own _ k => exact .own _ (Le.seq h F _ k)
theorem Less.app : ∀ {a b c d : List (List AV)}, Less a b → Less c d → Less (a ++ c) (b ++ d)
  | _, _, _, _, .nil, k => k
  | _, _, _, _, .cons h e hs, k => .cons h e (Less.app hs k)
theorem Le.beq {a b : Bool} (h : a = b) : Le (.val (.bool a)) (.val (.bool b)) := by subst h; exact Le.refl _
theorem Le.ieq {k : IntKind} {a b : Int} (h : a = b) : Le (.val (.int k a)) (.val (.int k b)) := by subst h; exact Le.refl _
section
variable {P : Program} {o : Oper} {al : Sl} {M : Mem} {K : AV → Mem → Prop}
theorem op_build_arr {t e : TypeId} {z : Value} {len size : Nat} {parts : Array (Nat × Operand)} {ns : List Nat} {xs : List Operand} {vs : List AV} {cs' : List AV} (ho : o.op = .build t parts) (hz : tyZero P t = some z) (hzf : (AV.val z).flat = true) (hu : P.underlying t = some (.array len e)) (hs : (P.info? e).map (·.size) = some size) (hp : parts.toList = ns.zip xs) (hlen : ns.length = xs.length) (hx : xs.mapM al.ev = some vs) (hb : bldF size (AV.val z).cells (ns.zip vs) = some cs')
    (q : K (.agg cs') M) : OpT P o al M K :=
  OpT.plain fun n B F Mf a w hi hsl => by
    have hr := Rels.map_ev hsl hx
    have hln := hr.len
    simp only [List.length_map] at hln
    obtain ⟨z1, z2⟩ := (Rel.val (F := F) z).cells hzf
    obtain ⟨vs', q1, q2, q3⟩ := bldF_run (size := size) (ns.zip vs) (ns.zip (xs.map a.eval)) _ _ cs' z1 z2 (by
      rw [List.map_fst_zip (by omega), List.map_fst_zip (by simp; omega)]) (by
      rw [List.map_snd_zip (by omega), List.map_snd_zip (by simp; omega)]; exact hr) hb
    refine ⟨.agg vs'.toArray, _, ?_, q, .agg q2 q3⟩
    have hparts : (parts.map (fun x => (x.1, a.eval x.2))).toList = ns.zip (xs.map a.eval) := by
      rw [Array.toList_map, hp, List.zip_map_right]
      rfl
    obtain ⟨inf, hinf, rfl⟩ := Option.map_eq_some_iff.1 hs
    unfold execOp
    simp only [ho, Instr.build, Sem.run_bind, tyZero_run hz, Result.andThen_ok, run_underlying hu]
    simp only [sizeOf, typeInfo, Sem.run_bind, run_program, Result.andThen_ok, hinf, hparts]
    simp only [Array.toArray_toList] at q1
    simp [q1]
end
end Go.Proofs.Ytecpnlhjjmcllaa
