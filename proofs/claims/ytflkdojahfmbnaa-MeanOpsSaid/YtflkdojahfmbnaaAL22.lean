/- A logic of trees: a range over a function within a round of another. -/
import Derived.Test.YtflkdojahfmbnaaAL10
import Derived.RangeFuncNested
namespace Go.Proofs.Ytflkdojahfmbnaa
open Go.RowKit
/-- up to weaker words and less memory -/
def UpM (R : Mem → Prop) (M : Mem) : Prop := ∃ M', MLe M M' ∧ R M'
def IsL (p : EH → Obj → Prop) : Prop := ∀ F o, p F o → ∃ r, o = .loop r
/-- a round, walked with the record in sight -/
theorem YCall.of_codeU {P : Program} {l n : Nat} {al : Sl} {ps : List Nat} {assign body : Code} {vs : List AV} {M0 : Mem} {Rn : Mem → Prop} {Rx : Code → Mem → Prop} (hps : ps.length = vs.length) (hin : (ps.all fun p => Nat.blt p n) = true)
    (h : ACode (some l) P n assign (Then (fun al1 M1 => ∀ p, IsL p → ACode (some l) P n body (RoundQ (UpM fun M => ∃ M2, M = .objp l p :: M2 ∧ Rn M2) (fun c => UpM fun M => ∃ M2, M = .objp l p :: M2 ∧ Rx c M2)) al1 (.objp l p :: M1)) (fun _ _ _ => False)) (putL al ps vs) M0) :
    YCall P l vs (lrec l n al ps.toArray assign body false none :: M0) (fun v M' => (v = .val (.bool true) ∧ ∃ M1, M' = lrec l n al ps.toArray assign body false none :: M1 ∧ Rn M1) ∨ (v = .val (.bool false) ∧ ∃ M1 c, M' = lrec l n al ps.toArray assign body false (some c) :: M1 ∧ Rx c M1)) := by
  intro B F Mf w us hi hr ro
  have hi : Inv B F (lrec l n al ps.toArray assign body false none :: (M0 ++ Mf)) w := hi
  obtain ⟨hB, hF, o, ho, _, hp⟩ := hi.ok _ (List.mem_cons_self)
  obtain ⟨r, rfl, ⟨hst, hpe⟩, hpa, has, hbo, hsl⟩ := hp F (Ext.refl F)
  have hlen := hr.len
  have hsz : us.toArray.size = r.params.size := by rw [hpa]; simp; omega
  have hfold : ((r.params.zip us.toArray).foldl (fun tmps (p : Tmp × Value) => tmps.setIfInBounds p.1 p.2) r.tmps) = (ps.zip us).foldl (fun t (p : Nat × Value) => t.setIfInBounds p.1 p.2) r.tmps := by
    rw [hpa, List.zip_toArray, List.foldl_toArray']
    simp
  refine ⟨r.fn, _, r.assign, r.body, run_yield ho hsz, roundIn_of_wpIn trivial ?_⟩
  rw [has, hbo]
  have hsl' : Slots n F (putL al ps vs) ((r.params.zip us.toArray).foldl (fun tmps (p : Tmp × Value) => tmps.setIfInBounds p.1 p.2) r.tmps) := by
    rw [hfold]
    exact putL_slots hsl hin hr hps
  have hcode := h B F (lrec l n al ps.toArray assign body false none :: Mf) { tmps := (r.params.zip us.toArray).foldl (fun tmps (p : Tmp × Value) => tmps.setIfInBounds p.1 p.2) r.tmps, defers := [] } w (Inv.mid.2 hi) hsl'
  have hcode : assign.wpIn ((RF ro).inRound l) 0 P _ _ w := hcode
  refine Code.wpIn_mono ?_ hcode
  rintro e a1 w1 ⟨Ds, F1, al1, M1, hq, hE1, hi1, hs1, hd1, hb1⟩
  cases e with
  | normal =>
    have hi1' : Inv B F1 (lrec l n al ps.toArray assign body false none :: (M1 ++ (Ds.map spent ++ Mf))) w1 := by
      refine hi1.perm ?_
      rw [← List.append_assoc, ← List.append_assoc]
      exact List.perm_middle
    obtain ⟨_, _, o1, ho1, _, hp1⟩ := hi1'.ok _ (List.mem_cons_self)
    obtain ⟨r1, rfl, ⟨hst1, hpe1⟩, hpa1, has1, hbo1, hsl1⟩ := hp1 F1 (Ext.refl F1)
    obtain ⟨_, hbl, hput⟩ := hi1'.objPut (.loop { r1 with state := .busy })
    have hi2 := hput rfl (LoopIs n al ps.toArray assign body true none) (fun F' e => ⟨_, rfl, rfl, hpa1, has1, hbo1, hsl1.mono e⟩)
    refine ⟨_, run_beginRound ho1 hst1, ?_⟩
    have hi2' : Inv B F1 ((lrec l n al ps.toArray assign body true none :: M1) ++ (Ds.map spent ++ Mf)) (w1.putObj l (.loop { r1 with state := .busy })) := hi2
    have hbody := hq _ (fun F o ⟨r, h, _⟩ => ⟨r, h⟩) B F1 (Ds.map spent ++ Mf) a1 _ hi2' hs1
    have hbody : body.wpIn ((RF ro).inRound l) 0 P _ a1 _ := hbody
    refine Code.wpIn_mono ?_ hbody
    rintro e a2 w2 ⟨Ds2, F2, al2, M2', hq2, hE2, hi3, hs2, hd2, hb2⟩
    have fin : ∀ (M2 : Mem), MLe M2' (lrec l n al ps.toArray assign body true none :: M2) → ∀ jump : Option Code, ∃ w', (Instr.endRound l jump).run P w2 = .ok (.bool jump.isNone) w' ∧ Inv B F2 ((lrec l n al ps.toArray assign body false jump :: M2) ++ Mf) w' ∧ Below B w w' := by
      intro M2 hle jump
      have hi3 := hi3.le hle
      have hi3' : Inv B F2 (lrec l n al ps.toArray assign body true none :: (M2 ++ (Ds2.map spent ++ (Ds.map spent ++ Mf)))) w2 := hi3
      obtain ⟨_, _, o3, ho3, _, hp3⟩ := hi3'.ok _ (List.mem_cons_self)
      obtain ⟨r3, rfl, hst3, hpa3, has3, hbo3, hsl3⟩ := hp3 F2 (Ext.refl F2)
      obtain ⟨_, hbl4, hput4⟩ := hi3'.objPut (.loop { r3 with state := if jump.isNone then .ready else .done, pending := jump })
      have hi4 := hput4 rfl (LoopIs n al ps.toArray assign body false jump) (fun F' e => ⟨_, rfl, ⟨rfl, rfl⟩, hpa3, has3, hbo3, hsl3.mono e⟩)
      refine ⟨_, run_endRound jump ho3, ?_, ((hb1.trans hbl).trans hb2).trans hbl4⟩
      refine hi4.sub ?_
      rw [List.cons_append]
      refine List.Sublist.cons_cons _ (List.Sublist.append (List.Sublist.refl _) ?_)
      exact List.Sublist.trans (List.sublist_append_right _ _) (List.sublist_append_right _ _)
    cases e with
    | normal =>
      obtain ⟨_, hM2, M2, rfl, hq2⟩ := hq2
      obtain ⟨w', h1, h2, h3⟩ := fin M2 hM2 none
      exact ⟨_, w', h1, _, _, _, F2, rfl, .inl ⟨rfl, M2, rfl, hq2⟩, .val _, hE1.trans hE2, h2, h3⟩
    | ret =>
      obtain ⟨_, hM2, M2, rfl, hq2⟩ := hq2
      obtain ⟨w', h1, h2, h3⟩ := fin M2 hM2 (some .ret)
      exact ⟨_, w', h1, _, _, _, F2, rfl, .inr ⟨rfl, M2, _, rfl, hq2⟩, .val _, hE1.trans hE2, h2, h3⟩
    | exit id =>
      obtain ⟨_, hM2, M2, rfl, hq2⟩ := hq2
      obtain ⟨w', h1, h2, h3⟩ := fin M2 hM2 (some (.exit id))
      exact ⟨_, w', h1, _, _, _, F2, rfl, .inr ⟨rfl, M2, _, rfl, hq2⟩, .val _, hE1.trans hE2, h2, h3⟩
    | goto t =>
      obtain ⟨_, hM2, M2, rfl, hq2⟩ := hq2
      obtain ⟨w', h1, h2, h3⟩ := fin M2 hM2 (some (.goto t))
      exact ⟨_, w', h1, _, _, _, F2, rfl, .inr ⟨rfl, M2, _, rfl, hq2⟩, .val _, hE1.trans hE2, h2, h3⟩
    | panic c => exact hq2.elim
    | outgrown => exact hq2.elim
  | exit id => exact hq.elim
  | goto t => exact hq.elim
  | ret => exact hq.elim
  | panic c => exact hq.elim
  | outgrown => exact hq.elim
/-- the statement, in a function's own frame; the body sees its record -/
theorem c_rangeU {P : Program} {n : Nat} {ks : List Kont} {Q : Exit → Sl → Mem → Prop} {al : Sl} {M : Mem} {g : Operand} {f : FuncId} {fs cs : List AV} {xs : List (List AV)} {ps : List Nat} {assign body : Code} (hg : al.ev g = some (.clo (.func f) fs cs)) (hit : Iter P f fs cs xs)
    (J : Nat → Mem → Prop) (Jx : Code → Mem → Prop) (h0 : J 0 M) (hps : ∀ x ∈ xs, ps.length = x.length) (hin : (ps.all fun p => Nat.blt p n) = true)
    (hbody : ∀ (l k : Nat) (x : List AV) (M0 : Mem), xs[k]? = some x → J k M0 → ACode (some l) P n assign (Then (fun al1 M1 => ∀ p, IsL p → ACode (some l) P n body (RoundQ (UpM fun M => ∃ M2, M = .objp l p :: M2 ∧ J (k + 1) M2) (fun c => UpM fun M => ∃ M2, M = .objp l p :: M2 ∧ Jx c M2)) al1 (.objp l p :: M1)) (fun _ _ _ => False)) (putL al ps x) M0)
    (hdone : ∀ M', J xs.length M' → AGo none P n ks Q al M') (hjump : ∀ c M', Jx c M' → ACode none P n c (after none P n ks Q) al M') :
    ACode none P n (.rangeFunc g ps.toArray assign body) (after none P n ks Q) al M := by
  intro B F Mf a w hi hs
  have h := hs.ev hg
  generalize he : a.eval g = u at h
  cases h with
  | clo _ hvf hvc =>
    rename_i vf vc
    refine wpIn_rangeFunc fun fn _ => ?_
    have hi1 := hi.newObj (.deferred (some [])) rfl (fun _ o' => o' = .deferred (some [])) (fun _ _ => rfl)
    let r0 : Loop := { state := .ready, pending := none, fn := fn, tmps := a.tmps, params := ps.toArray, assign := assign, body := body, defers := w.heap.size }
    have hi2 := hi1.newObj (.loop r0) rfl (LoopIs n al ps.toArray assign body false none) (fun F' e => ⟨r0, rfl, ⟨rfl, rfl⟩, rfl, rfl, rfl, hs.mono e⟩)
    have hl : (w.alloc (.deferred (some []))).heap.size = w.heap.size + 1 := by simp
    rw [hl] at hi2
    have hit' := hit (w.heap.size + 1) (fun k M => ∃ M0, M = lrec (w.heap.size + 1) n al ps.toArray assign body false none :: M0 ∧ J k M0) (fun _ M => ∃ M0 c, M = lrec (w.heap.size + 1) n al ps.toArray assign body false (some c) :: M0 ∧ Jx c M0) (by
      rintro k x M0 hx ⟨M1, rfl, hJ⟩
      refine YCall.mono (YCall.of_codeU (hps x (List.mem_of_getElem? hx)) hin (hbody _ k x M1 hx hJ)) ?_
      rintro v M' (⟨rfl, M2, rfl, h2⟩ | ⟨rfl, M2, c, rfl, h2⟩)
      · exact .inl ⟨rfl, M2, rfl, h2⟩
      · exact .inr ⟨rfl, M2, c, rfl, h2⟩) (lrec (w.heap.size + 1) n al ps.toArray assign body false none :: M) ⟨M, rfl, h0⟩
    have hB1 : Below B w ((w.alloc (.deferred (some []))).alloc (.loop r0)) := (alloc_below _ hi.base).trans (alloc_below _ (by have := hi.base; simp; omega))
    have hi2' : Inv B F ((lrec (w.heap.size + 1) n al ps.toArray assign body false none :: M) ++ (spent w.heap.size :: Mf)) ((w.alloc (.deferred (some []))).alloc (.loop r0)) := by
      refine hi2.perm ?_
      rw [List.cons_append]
      exact (List.Perm.cons _ (List.perm_middle (a := spent w.heap.size) (l₁ := M) (l₂ := Mf))).symm
    let W1 : World := (w.alloc (.deferred (some []))).alloc (.loop r0)
    refine ⟨w.heap.size + 1, [mark w.heap.size], W1, { target := .fn (.func f) vc.toArray, args := (vf ++ [Value.func (.yield (w.heap.size + 1)) #[] #[]]).toArray }, W1, f, (vf ++ [Value.func (.yield (w.heap.size + 1)) #[] #[]] ++ vc).toArray, W1, run_enterLoop_outer fn a.tmps ps.toArray assign body, ?_, fun _ _ => trivial, ?_, fun q => by simp [Fence.wide] at q, ?_⟩
    · have hc : a.eval (.const (.func (.yield (w.heap.size + 1)) #[] #[])) = .func (.yield (w.heap.size + 1)) #[] #[] := rfl
      simp [resolve, he, Deferred.ofValue, hc]
    · simp only [invoke, List.append_toArray]
      exact hit'.ent _ _
    · refine callsIn_RF.2 ((hit'.run B F (spent w.heap.size :: Mf) _ _ hi2' ((hvf.app (Rels.cons (.val _) .nil)).app hvc)).mono ?_)
      rintro e w3 ⟨u, v, M', F', rfl, hor, _, hE, hi3, hb3⟩
      rcases hor with ⟨M0, rfl, hJ⟩ | ⟨_, _, M0, c, rfl, hJ⟩
      · have hi3 : Inv B F' (lrec (w.heap.size + 1) n al ps.toArray assign body false none :: (M0 ++ (spent w.heap.size :: Mf))) w3 := hi3
        obtain ⟨_, _, o3, ho3, _, hp3⟩ := hi3.ok _ (List.mem_cons_self)
        obtain ⟨r3, rfl, ⟨hst3, hpe3⟩, _⟩ := hp3 F' (Ext.refl F')
        obtain ⟨hi4, hbl4, _⟩ := hi3.objPut (.loop { r3 with state := .exhausted })
        have hend : (Instr.endLoop (w.heap.size + 1)).run P w3 = .ok (none) (w3.putObj (w.heap.size + 1) (.loop { r3 with state := .exhausted })) := by
          rw [run_endLoop (P := P) ho3 (by rw [hst3]; simp), hpe3]
        refine ⟨none, _, hend, ?_⟩
        exact ⟨[w.heap.size], F', al, M0, hdone M0 hJ, hE, hi4, hs.mono hE, rfl, (hB1.trans hb3).trans hbl4⟩
      · have hi3 : Inv B F' (lrec (w.heap.size + 1) n al ps.toArray assign body false (some c) :: (M0 ++ (spent w.heap.size :: Mf))) w3 := hi3
        obtain ⟨_, _, o3, ho3, _, hp3⟩ := hi3.ok _ (List.mem_cons_self)
        obtain ⟨r3, rfl, ⟨hst3, hpe3⟩, _⟩ := hp3 F' (Ext.refl F')
        obtain ⟨hi4, hbl4, _⟩ := hi3.objPut (.loop { r3 with state := .exhausted })
        have hend : (Instr.endLoop (w.heap.size + 1)).run P w3 = .ok (some c) (w3.putObj (w.heap.size + 1) (.loop { r3 with state := .exhausted })) := by
          rw [run_endLoop (P := P) ho3 (by rw [hst3]; simp), hpe3]
        refine ⟨some c, _, hend, ?_⟩
        refine Code.wpIn_mono ?_ (hjump c M0 hJ B F' (spent w.heap.size :: Mf) { a with defers := mark w.heap.size :: a.defers } _ hi4 (hs.mono hE))
        intro e a5 w5 hp
        exact PostD.next (Ds := [w.heap.size]) hE ((hB1.trans hb3).trans hbl4) hp
/-- the statement, within a round -/
theorem c_rangeN {P : Program} {n l0 i0 : Nat} {p0 : EH → Obj → Prop} {ks : List Kont} {Q : Exit → Sl → Mem → Prop} {al : Sl} {M : Mem} {g : Operand} {f : FuncId} {fs cs : List AV} {xs : List (List AV)} {ps : List Nat} {assign body : Code} (hg : al.ev g = some (.clo (.func f) fs cs)) (hit : Iter P f fs cs xs) (hm : M[i0]? = some (.objp l0 p0)) (hp0 : IsL p0)
    (J : Nat → Mem → Prop) (Jx : Code → Mem → Prop) (h0 : J 0 M) (hps : ∀ x ∈ xs, ps.length = x.length) (hin : (ps.all fun p => Nat.blt p n) = true)
    (hbody : ∀ (l k : Nat) (x : List AV) (M0 : Mem), xs[k]? = some x → J k M0 → ACode (some l) P n assign (Then (fun al1 M1 => ∀ p, IsL p → ACode (some l) P n body (RoundQ (UpM fun M => ∃ M2, M = .objp l p :: M2 ∧ J (k + 1) M2) (fun c => UpM fun M => ∃ M2, M = .objp l p :: M2 ∧ Jx c M2)) al1 (.objp l p :: M1)) (fun _ _ _ => False)) (putL al ps x) M0)
    (hdone : ∀ M', J xs.length M' → AGo (some l0) P n ks Q al M') (hjump : ∀ c M', Jx c M' → ACode (some l0) P n c (after (some l0) P n ks Q) al M') :
    ACode (some l0) P n (.rangeFunc g ps.toArray assign body) (after (some l0) P n ks Q) al M := by
  intro B F Mf a w hi hs
  have h := hs.ev hg
  generalize he : a.eval g = u at h
  cases h with
  | clo _ hvf hvc =>
    rename_i vf vc
    refine wpIn_rangeFunc fun fn _ => ?_
    obtain ⟨_, _, o0, ho0, _, hpo⟩ := hi.ok _ (List.mem_append_left _ (List.mem_of_getElem? hm))
    obtain ⟨r00, rfl⟩ := hp0 F _ (hpo F (Ext.refl F))
    let r0 : Loop := { state := .ready, pending := none, fn := fn, tmps := a.tmps, params := ps.toArray, assign := assign, body := body, defers := r00.defers }
    have hi2 := hi.newObj (.loop r0) rfl (LoopIs n al ps.toArray assign body false none) (fun F' e => ⟨r0, rfl, ⟨rfl, rfl⟩, rfl, rfl, rfl, hs.mono e⟩)
    have hit' := hit (w.heap.size) (fun k M => ∃ M0, M = lrec (w.heap.size) n al ps.toArray assign body false none :: M0 ∧ J k M0) (fun _ M => ∃ M0 c, M = lrec (w.heap.size) n al ps.toArray assign body false (some c) :: M0 ∧ Jx c M0) (by
      rintro k x M0 hx ⟨M1, rfl, hJ⟩
      refine YCall.mono (YCall.of_codeU (hps x (List.mem_of_getElem? hx)) hin (hbody _ k x M1 hx hJ)) ?_
      rintro v M' (⟨rfl, M2, rfl, h2⟩ | ⟨rfl, M2, c, rfl, h2⟩)
      · exact .inl ⟨rfl, M2, rfl, h2⟩
      · exact .inr ⟨rfl, M2, c, rfl, h2⟩) (lrec (w.heap.size) n al ps.toArray assign body false none :: M) ⟨M, rfl, h0⟩
    have hB1 : Below B w (w.alloc (.loop r0)) := alloc_below _ hi.base
    let W1 : World := w.alloc (.loop r0)
    refine ⟨w.heap.size, [], W1, { target := .fn (.func f) vc.toArray, args := (vf ++ [Value.func (.yield (w.heap.size)) #[] #[]]).toArray }, W1, f, (vf ++ [Value.func (.yield (w.heap.size)) #[] #[]] ++ vc).toArray, W1, run_enterLoop_inner ho0 fn a.tmps ps.toArray assign body, ?_, fun _ _ => trivial, ?_, fun q => by simp [Fence.wide] at q, ?_⟩
    · have hc : a.eval (.const (.func (.yield (w.heap.size)) #[] #[])) = .func (.yield (w.heap.size)) #[] #[] := rfl
      simp [resolve, he, Deferred.ofValue, hc]
    · simp only [invoke, List.append_toArray]
      exact hit'.ent _ _
    · refine callsIn_RF.2 ((hit'.run B F Mf _ _ hi2 ((hvf.app (Rels.cons (.val _) .nil)).app hvc)).mono ?_)
      rintro e w3 ⟨u, v, M', F', rfl, hor, _, hE, hi3, hb3⟩
      rcases hor with ⟨M0, rfl, hJ⟩ | ⟨_, _, M0, c, rfl, hJ⟩
      · have hi3 : Inv B F' (lrec (w.heap.size) n al ps.toArray assign body false none :: (M0 ++ Mf)) w3 := hi3
        obtain ⟨_, _, o3, ho3, _, hp3⟩ := hi3.ok _ (List.mem_cons_self)
        obtain ⟨r3, rfl, ⟨hst3, hpe3⟩, _⟩ := hp3 F' (Ext.refl F')
        obtain ⟨hi4, hbl4, _⟩ := hi3.objPut (.loop { r3 with state := .exhausted })
        have hend : (Instr.endLoop (w.heap.size)).run P w3 = .ok (none) (w3.putObj (w.heap.size) (.loop { r3 with state := .exhausted })) := by
          rw [run_endLoop (P := P) ho3 (by rw [hst3]; simp), hpe3]
        refine ⟨none, _, hend, ?_⟩
        exact ⟨[], F', al, M0, hdone M0 hJ, hE, hi4, hs.mono hE, rfl, (hB1.trans hb3).trans hbl4⟩
      · have hi3 : Inv B F' (lrec (w.heap.size) n al ps.toArray assign body false (some c) :: (M0 ++ Mf)) w3 := hi3
        obtain ⟨_, _, o3, ho3, _, hp3⟩ := hi3.ok _ (List.mem_cons_self)
        obtain ⟨r3, rfl, ⟨hst3, hpe3⟩, _⟩ := hp3 F' (Ext.refl F')
        obtain ⟨hi4, hbl4, _⟩ := hi3.objPut (.loop { r3 with state := .exhausted })
        have hend : (Instr.endLoop (w.heap.size)).run P w3 = .ok (some c) (w3.putObj (w.heap.size) (.loop { r3 with state := .exhausted })) := by
          rw [run_endLoop (P := P) ho3 (by rw [hst3]; simp), hpe3]
        refine ⟨some c, _, hend, ?_⟩
        refine Code.wpIn_mono ?_ (hjump c M0 hJ B F' Mf a _ hi4 (hs.mono hE))
        intro e a5 w5 hp
        exact PostD.next (Ds := []) hE ((hB1.trans hb3).trans hbl4) hp
/-- a block that is written no more becomes eternal: the pointers to it are pointers to cells that stay -/
theorem ACode.freezep {ro : Option Nat} {n' : Nat} {Q : Exit → Sl → Mem → Prop} {c : Code} {al al' : Sl} {M : Mem} {P : Program} {b i : Nat} {cs : List AV} (hm : M[i]? = some (.loc b cs))
    (hs : ∀ t v', al'.lookup t = some v' → ∃ v, al.lookup t = some v ∧ (Le v v' ∨ v = .ptr b 0 ∧ v' = .cptr cs))
    (h : ACode ro P n' c Q al' (M.eraseIdx i)) : ACode ro P n' c Q al M := by
  intro B F Mf a w hi hsl
  have hi2 := hi.perm ((perm_at hm).append_right Mf)
  rw [List.cons_append] at hi2
  obtain ⟨hB, hF, vs, T, hb, hr, h1⟩ := hi2.ok _ (List.mem_cons_self)
  have hfar := hi2.far
  rw [List.pairwise_cons] at hfar
  have hbl : b < w.heap.size := (hi2.ok _ (List.mem_cons_self)).lt (r := .loc b cs) rfl
  have hext : Ext F (F.new b vs) := by
    intro b' j x hx
    unfold EH.new
    split
    · rename_i e; subst e; rw [hF j] at hx; simp at hx
    · exact hx
  have hinv : Inv B (F.new b vs) (M.eraseIdx i ++ Mf) w := by
    refine ⟨hi.base, fun b' j x hx => ?_, fun r hr' => ?_, hfar.2⟩
    · unfold EH.new at hx
      split at hx
      · rename_i e; subst e
        rw [cell_block hb]; exact hx
      · exact hi.fix b' j x hx
    · refine (hi2.ok r (List.mem_cons_of_mem _ hr')).stay hext (fun b' hb' => ⟨rfl, fun j => ?_⟩)
      unfold EH.new
      rw [if_neg]
      intro e
      subst e
      rcases hfar.1 r hr' with k | k
      · simp [Res.blk] at k
      · exact k hb'.symm
  have := h B (F.new b vs) Mf a w hinv ⟨hsl.1, fun t v' e => ?_⟩
  · exact Code.wpIn_mono (fun e a w hp => PostD.next (Ds := []) hext (Below.refl _ _) hp) this
  · obtain ⟨v, h2, h3⟩ := hs t v' e
    obtain ⟨h4, h5⟩ := hsl.2 t v h2
    refine ⟨h4, ?_⟩
    rcases h3 with h3 | ⟨rfl, rfl⟩
    · exact h3 _ _ (h5.mono hext)
    · generalize a.tmps.getD t undef = y at h5
      cases h5
      exact .cptr b 0 (EH.new_lies _ _ _) (hr.mono hext) h1
theorem c_frzp {ro : Option Nat} {P : Program} {n : Nat} {ks : List Kont} {Q : Exit → Sl → Mem → Prop} {c : Code} {al : Sl} {M : Mem} {b i : Nat} {cs : List AV} (t : Nat) (hm : M[i]? = some (.loc b cs)) (ht : al.lookup t = some (.ptr b 0)) (h : ACode ro P n c (after ro P n ks Q) ((t, .cptr cs) :: al) (M.eraseIdx i)) : ACode ro P n c (after ro P n ks Q) al M :=
  ACode.freezep hm (fun t' v' e => by
    by_cases q : t' = t
    · subst q
      simp only [List.lookup_cons, beq_self_eq_true, Option.some.injEq] at e
      exact ⟨_, ht, .inr ⟨rfl, e.symm⟩⟩
    · rw [List.lookup_cons, show (t' == t) = false by simpa using q] at e
      exact ⟨_, e, .inl (Le.refl _)⟩) h
end Go.Proofs.Ytflkdojahfmbnaa
