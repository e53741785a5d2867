/- A logic of trees: drawn regions order by order; a row that becomes eternal. -/
import Derived.Test.YtflkdojahfmbnaaAL11
import Derived.Test.YtflkdojahfmbnaaAL22
namespace Go.Proofs.Ytflkdojahfmbnaa
open Go.RowKit
def AllL (p : Nat → Prop) : List Nat → Prop
  | [] => True
  | i :: is => p i ∧ AllL p is
theorem AllL.get {p : Nat → Prop} : ∀ {is : List Nat}, AllL p is → ∀ i ∈ is, p i
  | [], _, i, h => by simp at h
  | j :: is, h, i, hi => by
    rcases List.mem_cons.1 hi with rfl | hi
    · exact h.1
    · exact AllL.get h.2 i hi
/-- the rest of a drawn region, once some operations have been taken -/
def ADraw (ro : Option Nat) (P : Program) (n : Nat) (l : List Oper) (QQ : Exit → Sl → Mem → Prop) (fuel : Nat) (lis : List Bool) (al : Sl) (M : Mem) : Prop :=
  ∀ (B : Nat) (F0 : EH) (Mf : Mem) (w0 : World) (ds : List Deferred) (F : EH) (a : Act) (w : World), Ext F0 F → Inv B F (M ++ Mf) w → Slots n F al a.tmps → a.defers = ds → Below B w0 w →
    wpAnyIn (RF ro) 0 P .any l.toArray (fun e a' w' => PostD n B F0 Mf w0 ds (QQ e) a' w') fuel lis.toArray a w
section
variable {ro : Option Nat} {P : Program} {n : Nat} {l : List Oper} {QQ : Exit → Sl → Mem → Prop} {fuel : Nat} {lis : List Bool} {al : Sl} {M : Mem}
theorem ADraw.done (hr : Region.ready .any l.toArray lis.toArray = []) (h : QQ .normal al M) : ADraw ro P n l QQ fuel lis al M := by
  intro B F0 Mf w0 ds F a w hE hi hs hd hb
  have hq : PostD n B F0 Mf w0 ds (QQ .normal) a w := ⟨[], F, al, M, h, hE, hi, hs, hd, hb⟩
  cases fuel with
  | zero => exact ⟨hr, hq⟩
  | succ k => exact ⟨fun _ => hq, fun i hi => by rw [hr] at hi; simp at hi⟩
theorem ADraw.step (is : List Nat) (hr : Region.ready .any l.toArray lis.toArray = is) (hne : is.isEmpty = false)
    (h : AllL (fun i => ∃ o, l[i]? = some o ∧ o.guard = none ∧ (o.dst.all fun d => Nat.blt d n) = true ∧ OpT P o al M (fun v M' => ADraw ro P n l QQ fuel (lis.set i true) (al.put o.dst v) M')) is) : ADraw ro P n l QQ (fuel + 1) lis al M := by
  intro B F0 Mf w0 ds F a w hE hi hs hd hb
  refine ⟨fun e => ?_, fun i hmi => ?_⟩
  · rw [hr] at e; subst e; simp at hne
  · rw [hr] at hmi
    obtain ⟨o, ho, hg, hin, hop⟩ := h.get i hmi
    unfold wpOpIn
    simp only [List.getElem?_toArray, ho]
    rw [if_pos (by simp [Region.wanted, hg])]
    refine wp_exits (Oper.wpIn_mono ?_ (hop n B F Mf a w hi hs ro))
    rintro a' w' ⟨u, v, M', F', rfl, hK, hr', hE', hi', hb'⟩
    have hin' : o.dst.all (· < n) = true := by
      cases hdst : o.dst with
      | none => rfl
      | some d => rw [hdst] at hin; simpa [Nat.blt_eq] using hin
    have := hK B F0 Mf w0 ds F' (a.put o.dst u) w' (hE.trans hE') hi' (Slots.put (hs.mono hE') hin' hr') (by rw [← hd]; cases o.dst <;> rfl) (hb.trans hb')
    rwa [show (lis.set i true).toArray = lis.toArray.setIfInBounds i true by simp] at this
end
theorem c_tree {ro : Option Nat} {P : Program} {n : Nat} {l : List Oper} {QQ : Exit → Sl → Mem → Prop} {al : Sl} {M : Mem} {id : Nat} (hmix : P.follows .mixedOrders = true) (h : ADraw ro P n l QQ l.length (List.replicate l.length false) al M) : ACode ro P n (.region id l.toArray true) QQ al M := by
  intro B F Mf a w hi hs
  refine wpIn_region_any hmix ?_
  have := h B F Mf w a.defers F a _ (Ext.refl F) hi.drew hs rfl (Below.refl B w).drew
  rwa [show (List.replicate l.length false).toArray = Array.replicate l.toArray.size false by simp, show l.length = l.toArray.size by simp] at this
theorem ACode.freezer {ro : Option Nat} {n : Nat} {Q : Exit → Sl → Mem → Prop} {c : Code} {al : Sl} {M : Mem} {P : Program} {i m : Nat} {e : TypeId} {u : Value} {es : List (List AV)} (t : Nat) (hm : M[i]? = some (.row e m u es)) (ht : al.lookup t = some (.val u))
    (h : ACode ro P n c Q ((t, .seq m es) :: al) (M.eraseIdx i)) : ACode ro P n c Q al M := by
  intro B F Mf a w hi hsl
  have hi2 := hi.perm ((perm_at hm).append_right Mf)
  rw [List.cons_append] at hi2
  obtain ⟨zs, hown, hslack, hrx, hox, hwx⟩ := hi2.ok _ (List.mem_cons_self)
  have hfar := hi2.far
  rw [List.pairwise_cons] at hfar
  have hext : Ext F (F.grow u.ownBlock zs) := by
    intro b j x h
    unfold EH.grow
    split
    · rename_i hh
      rw [hslack b j hh.1.symm] at h; simp at h
    · exact h
  have hinv : Inv B (F.grow u.ownBlock zs) (M.eraseIdx i ++ Mf) w := by
    refine ⟨hi.base, fun b j x h => ?_, fun r hr' => ?_, hfar.2⟩
    · unfold EH.grow at h
      split at h
      · rename_i hh
        obtain ⟨hb, hj⟩ := hh
        rcases hown.2 with ⟨rfl, _⟩ | ⟨g, cap, cur, rfl, _⟩
        · simp [Value.ownBlock] at hb
        · simp [Value.ownBlock] at hb
          subst hb
          rw [hown.cellAt j (by rw [← hown.1]; exact hj)]; exact h
      · exact hi.fix b j x h
    · refine (hi2.ok r (List.mem_cons_of_mem _ hr')).stay hext (fun b' hb' => ⟨rfl, fun j => ?_⟩)
      unfold EH.grow
      rw [if_neg]
      rintro ⟨e, _⟩
      rcases hfar.1 r hr' with k | k
      · simp [Res.blk] at k
        rw [k] at e; simp at e
      · exact k (by rw [hb']; exact e.symm)
  have hu : Rel (F.grow u.ownBlock zs) (.seq m es) u := by
    rcases hown.2 with ⟨rfl, h0⟩ | ⟨g, cap, cur, rfl, _, _, hnc, hcm, _⟩
    · have : es = [] := List.eq_nil_of_length_eq_zero h0
      subst this
      exact .seq0 m none 0 (fun _ => rfl)
    · refine .seq (vs := zs) g 0 cap hwx (by omega) (fun j x hx => ?_) (hrx.mono hext) hox (by omega)
      have hj := get_lt hx
      unfold EH.grow
      rw [if_pos ⟨by rw [Value.ownBlock], by omega⟩, Nat.zero_add]
      exact hx
  have := h B (F.grow u.ownBlock zs) Mf a w hinv ⟨hsl.1, fun t' v' e => ?_⟩
  · exact Code.wpIn_mono (fun e a w hp => PostD.next (Ds := []) hext (Below.refl _ _) hp) this
  · by_cases q : t' = t
    · subst q
      simp only [List.lookup_cons, beq_self_eq_true, Option.some.injEq] at e
      subst e
      obtain ⟨h4, h5⟩ := hsl.2 t' _ ht
      refine ⟨h4, ?_⟩
      generalize a.tmps.getD t' undef = y at h5
      cases h5
      exact hu
    · rw [List.lookup_cons, show (t' == t) = false by simpa using q] at e
      obtain ⟨h4, h5⟩ := hsl.2 t' v' e
      exact ⟨h4, h5.mono hext⟩
theorem c_frzr {ro : Option Nat} {P : Program} {n : Nat} {ks : List Kont} {Q : Exit → Sl → Mem → Prop} {c : Code} {al : Sl} {M : Mem} {i m : Nat} {e : TypeId} {u : Value} {es : List (List AV)} (t : Nat) (hm : M[i]? = some (.row e m u es)) (ht : al.lookup t = some (.val u)) (h : ACode ro P n c (after ro P n ks Q) ((t, .seq m es) :: al) (M.eraseIdx i)) : ACode ro P n c (after ro P n ks Q) al M :=
  ACode.freezer t hm ht h
end Go.Proofs.Ytflkdojahfmbnaa
