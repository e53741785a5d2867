/- A logic of trees: maps from texts. -/
import Derived.Test.YtflkdojahfmbnaaAL10
import Derived.Test.YtflkdojahfmbnaaAL17
import Derived.MapKept
namespace Go.Proofs.Ytflkdojahfmbnaa
open Go.RowKit
def mget (s : ByteArray) : List (ByteArray × AV) → Option AV
  | [] => none
  | (k, v) :: l => if k = s then some v else mget s l
def mput (s : ByteArray) (x : AV) : List (ByteArray × AV) → List (ByteArray × AV)
  | [] => [(s, x)]
  | (k, v) :: l => if k = s then (s, x) :: l else (k, v) :: mput s x l
inductive MRel (F : EH) : List (ByteArray × AV) → List MapEntry → Prop
  | nil : MRel F [] []
  | cons {k : ByteArray} {v : AV} {e : MapEntry} {kvs : List (ByteArray × AV)} {es : List MapEntry} (hk : e.key = .string k) (hv : Rel F v e.val) (h : MRel F kvs es) : MRel F ((k, v) :: kvs) (e :: es)
theorem MRel.mono {F F' : EH} (hF : Ext F F') : ∀ {kvs : List (ByteArray × AV)} {es : List MapEntry}, MRel F kvs es → MRel F' kvs es
  | _, _, .nil => .nil
  | _, _, .cons hk hv h => .cons hk (hv.mono hF) (MRel.mono hF h)
/-- a map's object -/
def MapP (kvs : List (ByteArray × AV)) (F : EH) (o : Obj) : Prop := ∃ es clock, o = .map es clock ∧ MRel F kvs es.toList
theorem MapP.mono {kvs : List (ByteArray × AV)} {F F' : EH} {o : Obj} (hF : Ext F F') (h : MapP kvs F o) : MapP kvs F' o := by
  obtain ⟨es, clock, h1, h2⟩ := h
  exact ⟨es, clock, h1, h2.mono hF⟩
abbrev mapR (b : Nat) (kvs : List (ByteArray × AV)) : Res := .objp b (MapP kvs)
theorem same_str (a b : ByteArray) : Instr.sameNow .string (.string a) (.string b) = some (decide (b = a)) := by
  show some (a == b) = _
  by_cases h : b = a
  · rw [(MapKept.bytes_beq a b).2 h.symm, decide_eq_true h]
  · have : (a == b) = false := by
      cases hh : (a == b) with
      | false => rfl
      | true => exact absurd ((MapKept.bytes_beq a b).1 hh).symm h
    rw [this, decide_eq_false h]
theorem MRel.find {F : EH} {s : ByteArray} : ∀ {kvs : List (ByteArray × AV)} {es : List MapEntry}, MRel F kvs es → ∀ i : Nat, (mget s kvs = none ∧ Instr.findNow .string (.string s) es i = some none ∧ ∀ (x : AV) (e : MapEntry), e.key = .string s → Rel F x e.val → MRel F (mput s x kvs) (es ++ [e])) ∨
    (∃ v j u, mget s kvs = some v ∧ Instr.findNow .string (.string s) es i = some (some (i + j, u)) ∧ Rel F v u ∧ (∃ e, es[j]? = some e ∧ e.key = .string s) ∧ ∀ (x : AV) (y : Value), Rel F x y → MRel F (mput s x kvs) (es.modify j fun e => { e with key := .string s, val := y }))
  | _, _, .nil, i => .inl ⟨rfl, rfl, fun x e h1 h2 => .cons h1 h2 .nil⟩
  | _, _, .cons (k := k) (v := v) (e := e) (kvs := kvs) (es := es) hk hv h, i => by
    by_cases q : k = s
    · refine .inr ⟨v, 0, e.val, by rw [mget, if_pos q], ?_, hv, ⟨e, rfl, by rw [hk, q]⟩, fun x y hxy => ?_⟩
      · rw [Instr.findNow, hk, same_str, decide_eq_true q]; rfl
      · rw [mput, if_pos q]
        exact .cons rfl hxy h
    · rcases MRel.find (s := s) h (i + 1) with ⟨h1, h2, h3⟩ | ⟨v', j, u, h1, h2, h3, ⟨e', h4, h5⟩, h6⟩
      · refine .inl ⟨by rw [mget, if_neg q]; exact h1, ?_, fun x e' h4 h5 => ?_⟩
        · rw [Instr.findNow, hk, same_str, decide_eq_false q]; exact h2
        · rw [mput, if_neg q]; exact .cons hk hv (h3 x e' h4 h5)
      · refine .inr ⟨v', j + 1, u, by rw [mget, if_neg q]; exact h1, ?_, h3, ⟨e', by simpa using h4, h5⟩, fun x y hxy => ?_⟩
        · rw [Instr.findNow, hk, same_str, decide_eq_false q]
          show Instr.findNow .string (.string s) es (i + 1) = _
          rw [h2, show i + 1 + j = i + (j + 1) by omega]
        · rw [mput, if_neg q]
          exact .cons hk hv (h6 x y hxy)
section
variable {P : Program} {o : Oper} {al : Sl} {M : Mem} {K : AV → Mem → Prop}
theorem op_makeMap {t : TypeId} (ho : o.op = .makeMap t none) (q : ∀ b, K (.val (.map (some b))) (mapR b [] :: M)) : OpT P o al M K := by
  intro n B F Mf a w hi hs ro
  have e : (execOp a.eval o).run P w = .ok (.value (.map (some w.heap.size))) (w.alloc (.map #[] 0)) := by
    simp only [execOp, ho, Option.map_none]
    rfl
  exact wpR_value e ⟨_, _, _, F, rfl, q w.heap.size, .val _, Ext.refl F, hi.newObj (.map #[] 0) rfl _ (fun F' _ => ⟨#[], 0, rfl, .nil⟩), alloc_below _ hi.base⟩
theorem Inv.mapAt {B : Nat} {F : EH} {Mf : Mem} {w : World} (hi : Inv B F (M ++ Mf) w) {i b : Nat} {kvs : List (ByteArray × AV)} (hm : M[i]? = some (mapR b kvs)) : ∃ es clock, w.heap[b]? = some (.map es clock) ∧ MRel F kvs es.toList := by
  obtain ⟨_, _, o, h3, _, h5⟩ := hi.ok (mapR b kvs) (List.mem_append_left _ (List.mem_of_getElem? hm))
  obtain ⟨es, clock, rfl, h6⟩ := h5 F (Ext.refl F)
  exact ⟨es, clock, h3, h6⟩
theorem op_lookup_ok {x y : Operand} {t kt et : TypeId} {z : Value} {i b : Nat} {s : ByteArray} {kvs : List (ByteArray × AV)} (ho : o.op = .lookup t x y true) (ht : P.underlying t = some (.map kt et)) (hk : P.underlying kt = some .string) (hz : tyZero P et = some z) (hx : al.ev x = some (.val (.map (some b)))) (hy : al.ev y = some (.val (.string s))) (hm : M[i]? = some (mapR b kvs)) (q : K (.tup [(mget s kvs).getD (.val z), .val (.bool (mget s kvs).isSome)]) M) : OpT P o al M K :=
  OpT.plain fun n B F Mf a w hi hs => by
    have hex := ev_val hs hx
    have hey := ev_val hs hy
    obtain ⟨es, clock, hb, hr⟩ := hi.mapAt hm
    have hzr := tyZero_run hz w
    rcases hr.find (s := s) 0 with ⟨h1, h2, _⟩ | ⟨v, j, u, h1, h2, h3, _, _⟩
    · refine ⟨.tuple #[z, .bool false], _, ?_, q, ?_⟩
      · simp [execOp, ho, hex, hey, Instr.lookup, run_underlying ht, MapKept.run_getObj_map hb, MapKept.run_checkKey hk (show MapKept.IsKey .string (.string s) from trivial), MapKept.run_findKey hk h2, hzr, Result.andThen]
      · rw [h1]; exact .tup (.cons (.val z) (.cons (.val _) .nil))
    · refine ⟨.tuple #[u, .bool true], _, ?_, q, ?_⟩
      · simp [execOp, ho, hex, hey, Instr.lookup, run_underlying ht, MapKept.run_getObj_map hb, MapKept.run_checkKey hk (show MapKept.IsKey .string (.string s) from trivial), MapKept.run_findKey hk h2, Result.andThen]
      · rw [h1]; exact .tup (.cons h3 (.cons (.val _) .nil))
theorem op_lookup {x y : Operand} {t kt et : TypeId} {z : Value} {i b : Nat} {s : ByteArray} {kvs : List (ByteArray × AV)} (ho : o.op = .lookup t x y false) (ht : P.underlying t = some (.map kt et)) (hk : P.underlying kt = some .string) (hz : tyZero P et = some z) (hx : al.ev x = some (.val (.map (some b)))) (hy : al.ev y = some (.val (.string s))) (hm : M[i]? = some (mapR b kvs)) (q : K ((mget s kvs).getD (.val z)) M) : OpT P o al M K :=
  OpT.plain fun n B F Mf a w hi hs => by
    have hex := ev_val hs hx
    have hey := ev_val hs hy
    obtain ⟨es, clock, hb, hr⟩ := hi.mapAt hm
    have hzr := tyZero_run hz w
    rcases hr.find (s := s) 0 with ⟨h1, h2, _⟩ | ⟨v, j, u, h1, h2, h3, _, _⟩
    · refine ⟨z, _, ?_, q, ?_⟩
      · simp [execOp, ho, hex, hey, Instr.lookup, run_underlying ht, MapKept.run_getObj_map hb, MapKept.run_checkKey hk (show MapKept.IsKey .string (.string s) from trivial), MapKept.run_findKey hk h2, hzr, Result.andThen]
      · rw [h1]; exact .val z
    · refine ⟨u, _, ?_, q, ?_⟩
      · simp [execOp, ho, hex, hey, Instr.lookup, run_underlying ht, MapKept.run_getObj_map hb, MapKept.run_checkKey hk (show MapKept.IsKey .string (.string s) from trivial), MapKept.run_findKey hk h2, Result.andThen]
      · rw [h1]; exact h3
theorem op_mapput {x y z : Operand} {t kt et : TypeId} {i b : Nat} {s : ByteArray} {v : AV} {kvs : List (ByteArray × AV)} (ho : o.op = .mapUpdate t x y z) (ht : P.underlying t = some (.map kt et)) (hk : P.underlying kt = some .string) (hx : al.ev x = some (.val (.map (some b)))) (hy : al.ev y = some (.val (.string s))) (hz : al.ev z = some v) (hm : M[i]? = some (mapR b kvs)) (q : K (.val undef) (M.set i (mapR b (mput s v kvs)))) : OpT P o al M K := by
  intro n B F Mf a w hi hs ro
  have hex := ev_val hs hx
  have hey := ev_val hs hy
  have hez := hs.ev hz
  obtain ⟨es, clock, hb, hr⟩ := hi.mapAt hm
  have hperm : (M ++ Mf).Perm (mapR b kvs :: (M.eraseIdx i ++ Mf)) := by
    have := (perm_at hm).append_right Mf
    rwa [List.cons_append] at this
  have hi2 := hi.perm hperm
  have hback : ∀ r : Res, (r :: (M.eraseIdx i ++ Mf)).Perm (M.set i r ++ Mf) := fun r => by
    have h1 := perm_at (M := M.set i r) (i := i) (r := r) (by rw [List.getElem?_set_self (get_lt hm)])
    have h2 : (M.set i r).eraseIdx i = M.eraseIdx i := List.eraseIdx_set_eq
    rw [h2] at h1
    have := h1.symm.append_right Mf
    rwa [List.cons_append] at this
  rcases hr.find (s := s) 0 with ⟨_, h2, h3⟩ | ⟨v', j, u, _, h2, _, ⟨e, h4, h5⟩, h6⟩
  · have hrun : (execOp a.eval o).run P w = .ok .skip (w.putObj b (.map (es.push { key := .string s, val := a.eval z, born := clock }) (clock + 1))) := by
      simp [execOp, ho, hex, hey, Instr.mapUpdate, run_underlying ht, MapKept.run_getObj_map hb, MapKept.run_checkKey hk (show MapKept.IsKey .string (.string s) from trivial), MapKept.run_findKey hk h2, MapKept.run_setObj_map _ hb, Result.andThen, World.putObj]
    obtain ⟨_, k2, k3⟩ := hi2.objPut (.map (es.push { key := .string s, val := a.eval z, born := clock }) (clock + 1))
    have k4 := k3 rfl (MapP (mput s v kvs)) (fun F' hF => ⟨_, _, rfl, by
      rw [Array.toList_push]
      exact (h3 v { key := .string s, val := a.eval z, born := clock } rfl hez).mono hF⟩)
    exact wpR_skip hrun ⟨undef, .val undef, _, F, rfl, q, .val _, Ext.refl F, k4.perm (hback _), k2⟩
  · have hj : j < es.size := by
      have := get_lt h4
      simpa using this
    have hkey : ((es[j]?).map (·.key)).getD (.string s) = .string s := by
      rw [← Array.getElem?_toList, h4]
      exact h5
    rw [Nat.zero_add] at h2
    have hrun : (execOp a.eval o).run P w = .ok .skip (w.putObj b (.map (es.modify j fun e => { e with key := .string s, val := a.eval z }) clock)) := by
      simp only [execOp, ho, hex, hey]
      simp [Instr.mapUpdate, run_underlying ht, MapKept.run_getObj_map hb, MapKept.run_checkKey hk (show MapKept.IsKey .string (.string s) from trivial), MapKept.run_findKey hk h2, hkey, MapKept.run_keyThatStays (show MapKept.IsKey .string (.string s) from trivial), MapKept.run_setObj_map _ hb, Result.andThen, World.putObj]
    obtain ⟨_, k2, k3⟩ := hi2.objPut (.map (es.modify j fun e => { e with key := .string s, val := a.eval z }) clock)
    have k4 := k3 rfl (MapP (mput s v kvs)) (fun F' hF => ⟨_, _, rfl, by
      rw [Array.toList_modify]
      exact (h6 v (a.eval z) hez).mono hF⟩)
    exact wpR_skip hrun ⟨undef, .val undef, _, F, rfl, q, .val _, Ext.refl F, k4.perm (hback _), k2⟩
end
end Go.Proofs.Ytflkdojahfmbnaa
