/- The logic of trees, part 13: a slice of a slice, an element of an array. -/
import Derived.Test.YtflkdojahfmbnaaAL12
namespace Go.Proofs.Ytflkdojahfmbnaa
open Go.RowKit
section
variable {P : Program} {o : Oper} {al : Sl} {M : Mem} {K : AV → Mem → Prop}
theorem Rel.cap {F : EH} {m : Nat} {es : List (List AV)} {u : Value} (h : Rel F (.seq m es) u) : ∃ ao cap, u = .slice ao es.length cap ∧ es.length ≤ cap := by
  cases h with
  | seq0 _ ao cap hc => exact ⟨ao, cap, rfl, by simp⟩
  | seq b off cap hm hn hl h h1 hc => exact ⟨_, cap, rfl, hc⟩
theorem op_cut_of {x : Operand} {t : TypeId} {m l k : Nat} {v : AV} {es : List (List AV)} {lo hi mx : Option Operand} (ho : o.op = .slice t x lo hi mx) (hx : al.ev x = some v) (hv : IsSeq v m es) (hlk : l ≤ k) (hk : k ≤ es.length)
    (hr : ∀ (n : Nat) (F : EH) (a : Act) (w : World) (ao : Option Addr) (cap : Nat), Slots n F al a.tmps → es.length ≤ cap → (Instr.sliceAt t (.slice ao es.length cap) (lo.map a.eval) (hi.map a.eval) (mx.map a.eval)).run P w = .ok (.slice (if cap = l then ao else ao.map (·.add (l * m))) (k - l) (cap - l)) w)
    (q : K (.seq m ((es.take k).drop l)) M) : OpT P o al M K := by
  intro n B F Mf a w hi' hsl ro
  have hrel := hv.rel (hsl.ev hx)
  obtain ⟨ao, cap, hu, hcap⟩ := hrel.cap
  obtain ⟨ao', cap', hu', hmax, hsub⟩ := hrel.sub hlk hk
  rw [hu] at hu'
  simp only [Value.slice.injEq, true_and] at hu'
  obtain ⟨rfl, rfl⟩ := hu'
  refine wpR_value (w' := w) (by simp [execOp, ho, hu, hr n F a w ao cap hsl hcap]) ⟨_, _, _, F, rfl, q, hsub hcap, Ext.refl F, hi', Below.refl _ _⟩
theorem ev_int {n : Nat} {F : EH} {a : Act} {x : Operand} {ik : IntKind} {j : Int} (hs : Slots n F al a.tmps) (h : al.ev x = some (.val (.int ik j))) : a.eval x = .int ik j := ev_val hs h
/-- x[l:k] -/
theorem op_cut {x lo hi : Operand} {t e : TypeId} {m l k : Nat} {v : AV} {es : List (List AV)} {k1 k2 : IntKind} {a b : Int} (ho : o.op = .slice t x (some lo) (some hi) none) (ht : tyElem P t = some (e, m)) (hx : al.ev x = some v) (hv : IsSeq v m es) (h1 : al.ev lo = some (.val (.int k1 a))) (h2 : al.ev hi = some (.val (.int k2 b))) (ha : a = l) (hb : b = k) (hlk : l ≤ k) (hk : k ≤ es.length)
    (q : K (.seq m ((es.take k).drop l)) M) : OpT P o al M K :=
  op_cut_of ho hx hv hlk hk (fun n F ac w ao cap hs hc => by
    obtain ⟨hund, inf, hinf, rfl⟩ := tyElem_run ht
    have e1 := ev_int hs h1
    have e2 := ev_int hs h2
    subst ha hb
    have c1 : k ≤ cap := by omega
    have c2 : l ≤ k := hlk
    simp [Instr.sliceAt, Instr.slice, underlying, hund, Instr.sliceBounds, Instr.sliceBound, asIntOf, sizeOf, typeInfo, hinf, e1, e2, c1, c2]) q
/-- x[:k] -/
theorem op_cuth {x hi : Operand} {t e : TypeId} {m k : Nat} {v : AV} {es : List (List AV)} {k2 : IntKind} {b : Int} (ho : o.op = .slice t x none (some hi) none) (ht : tyElem P t = some (e, m)) (hx : al.ev x = some v) (hv : IsSeq v m es) (h2 : al.ev hi = some (.val (.int k2 b))) (hb : b = k) (hk : k ≤ es.length)
    (q : K (.seq m (es.take k)) M) : OpT P o al M K :=
  op_cut_of (l := 0) (k := k) ho hx hv (Nat.zero_le _) hk (fun n F ac w ao cap hs hc => by
    obtain ⟨hund, inf, hinf, rfl⟩ := tyElem_run ht
    have e2 := ev_int hs h2
    subst hb
    have c1 : k ≤ cap := by omega
    simp [Instr.sliceAt, Instr.slice, underlying, hund, Instr.sliceBounds, Instr.sliceBound, asIntOf, sizeOf, typeInfo, hinf, e2, c1]) (by simpa using q)
/-- x[l:] -/
theorem op_cutl {x lo : Operand} {t e : TypeId} {m l : Nat} {v : AV} {es : List (List AV)} {k1 : IntKind} {a : Int} (ho : o.op = .slice t x (some lo) none none) (ht : tyElem P t = some (e, m)) (hx : al.ev x = some v) (hv : IsSeq v m es) (h1 : al.ev lo = some (.val (.int k1 a))) (ha : a = l) (hl : l ≤ es.length)
    (q : K (.seq m (es.drop l)) M) : OpT P o al M K :=
  op_cut_of (l := l) (k := es.length) ho hx hv hl (Nat.le_refl _) (fun n F ac w ao cap hs hc => by
    obtain ⟨hund, inf, hinf, rfl⟩ := tyElem_run ht
    have e1 := ev_int hs h1
    subst ha
    have c2 : l ≤ es.length := hl
    simp [Instr.sliceAt, Instr.slice, underlying, hund, Instr.sliceBounds, Instr.sliceBound, asIntOf, sizeOf, typeInfo, hinf, e1, c2]) (by simpa using q)
/-- an element of an array that is a struct -/
theorem op_index_av {x y : Operand} {t e : TypeId} {ik : IntKind} {len m i : Nat} {j : Int} {cs cs' : List AV} (ho : o.op = .index t x y) (ht : P.underlying t = some (.array len e)) (he : tyAgg P e = some (some m)) (hx : al.ev x = some (.agg cs)) (hy : al.ev y = some (.val (.int ik j))) (hj : j = i) (hlt : i < len) (hc : (cs.drop (i * m)).take m = cs') (q : K (.agg cs') M) : OpT P o al M K :=
  OpT.plain fun n B F Mf ac w hi hs => by
    have h := hs.ev hx
    have h2 := ev_int hs hy
    generalize hu : ac.eval x = u at h
    cases h with
    | agg h h1 =>
      rename_i vs
      have hr := (h.drop (i * m)).take m
      rw [hc] at hr
      refine ⟨.agg ((vs.drop (i * m)).take m).toArray, _, ?_, q, .agg hr (fun v hv => h1 v (List.mem_of_mem_drop (List.mem_of_mem_take hv)))⟩
      subst hj
      obtain ⟨a1, a2⟩ := tyAgg_some he w
      simp [execOp, ho, hu, h2, Instr.index, asIntOf, underlying, ht, hlt, a1, a2, part, List.take_drop, Nat.add_comm]
/-- a text's byte -/
theorem op_index_str {x y : Operand} {t : TypeId} {ik : IntKind} {i : Nat} {j : Int} {s : ByteArray} {b : UInt8} (ho : o.op = .index t x y) (ht : P.underlying t = some .string) (hx : al.ev x = some (.val (.string s))) (hy : al.ev y = some (.val (.int ik j))) (hj : j = i) (hc : s[i]? = some b) (q : K (.val (.int .u8 b.toNat)) M) : OpT P o al M K :=
  OpT.plain fun n B F Mf ac w hi hs => by
    have h1 : ac.eval x = .string s := ev_val hs hx
    have h2 := ev_int hs hy
    refine ⟨.int .u8 b.toNat, _, ?_, q, .val _⟩
    subst hj
    simp [execOp, ho, h1, h2, Instr.index, asIntOf, underlying, ht, hc]
end
end Go.Proofs.Ytflkdojahfmbnaa
