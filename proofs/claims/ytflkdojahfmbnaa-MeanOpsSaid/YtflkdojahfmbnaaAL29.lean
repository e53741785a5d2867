/- A logic of trees, part 29: a frame that defers a closure which, where nothing panics, changes nothing. -/
import Derived.Test.YtflkdojahfmbnaaAL9
import Derived.RecoverIn
import Derived.TacticsInMore
namespace Go.Proofs.Ytflkdojahfmbnaa
open Go.RowKit
section
variable {P : Program} {n : Nat} {al : Sl} {M : Mem}
/-- a deferred call that, where nothing panics, changes nothing -/
def Idle (P : Program) (d : Deferred) : Prop :=
  ∃ fv cap f args, d.target = .fn fv cap ∧ (∀ w, (invoke d.target d.args).run P w = .ok (.enter f args) w) ∧ ∀ w, CallsDIn (RF none) 0 P f args .returning w fun e u' w' => (∃ v, e = .returned v) ∧ u' = .returning ∧ w' = w
/-- a closure that is so, with k words captured -/
def IdleC (P : Program) (g : FuncId) (k : Nat) : Prop :=
  Enters P g ∧ ∀ (args : Array Value) (w : World), args.size = k → CallsDIn (RF none) 0 P g args .returning w fun e u' w' => (∃ v, e = .returned v) ∧ u' = .returning ∧ w' = w
def AOpsI (P : Program) (n : Nat) (ops : Array Oper) (Q : Sl → Mem → Prop) (l : List Oper) (al : Sl) (M : Mem) : Prop :=
  ∀ (B : Nat) (F : EH) (Mf : Mem) (a : Act) (w : World), Inv B F (M ++ Mf) w → Slots n F al a.tmps →
    wpListIn (RF none) 0 P ops (fun e a' w' => e = .normal ∧ ∃ d, Idle P d ∧ Post n B F Mf w (d :: a.defers) Q a' w') l a w
def ACodeI (P : Program) (n : Nat) (c : Code) (Q : Exit → Sl → Mem → Prop) (al : Sl) (M : Mem) : Prop :=
  ∀ (B : Nat) (F : EH) (Mf : Mem) (a : Act) (w : World), Inv B F (M ++ Mf) w → Slots n F al a.tmps →
    c.wpIn (RF none) 0 P (fun e a' w' => ∃ d, Idle P d ∧ PostD n B F Mf w (d :: a.defers) (Q e) a' w') a w
theorem AOpsI.step {ops : Array Oper} {Q : Sl → Mem → Prop} {o : Oper} {rest : List Oper} (hg : o.guard = none) (hd : o.dst.all (· < n) = true)
    (h : OpT P o al M (fun v M' => AOpsI P n ops Q rest (al.put o.dst v) M')) : AOpsI P n ops Q (o :: rest) al M := by
  intro B F Mf a w hi hs
  refine wpListIn_plain hg fun K hK => ?_
  refine wp_exits (Oper.wpIn_mono ?_ (h n B F Mf a w hi hs none))
  rintro a' w' ⟨u, v, M', F', rfl, hk, hr, hF, hi', hb⟩
  refine hK _ _ ?_
  have := hk B F' Mf (a.put o.dst u) w' hi' ((hs.mono hF).put hd hr)
  rw [put_defers] at this
  exact wpR_norm (fun e a w h => h.1) (fun a w h => by obtain ⟨h1, d, h2, h3⟩ := h; exact ⟨h1, d, h2, h3.next hF hb⟩) _ _ _ this
theorem AOpsI.defer {ops : Array Oper} {Q : Sl → Mem → Prop} {o : Oper} {rest : List Oper} {x : Operand} {ts : Array TypeId} {g : FuncId} {fs cs : List AV} (ho : o.op = .defer { callee := .value x, args := #[], argTypes := ts }) (hg : o.guard = none) (hd : o.dst.all (· < n) = true)
    (hx : al.ev x = some (.clo (.func g) fs cs)) (hid : IdleC P g (fs.length + cs.length)) (h : AOps P n ops Q rest (al.put o.dst (.val undef)) M) : AOpsI P n ops Q (o :: rest) al M := by
  intro B F Mf a w hi hs
  refine wpListIn_plain hg fun K hK => ?_
  have hr := hs.ev hx
  generalize he : a.eval x = u at hr
  cases hr with
  | clo fn h1 h2 =>
    rename_i vf vc
    refine ⟨fun _ _ => trivial, ?_⟩
    have e : (o.semAt none a.eval).run P w = .ok (.defer ⟨.fn (.func g) vc.toArray, vf.toArray⟩) w := by
      simp only [Oper.semAt_none, execOp, ho, resolve, he, Deferred.ofValue, Sem.run_bind, Sem.run_pure, Result.andThen_ok]
      simp
    rw [show (RF none).round = none from rfl, e]
    simp only [Oper.uponIn]
    refine hK _ _ ?_
    have hd1 : Idle P ⟨.fn (.func g) vc.toArray, vf.toArray⟩ := ⟨.func g, vc.toArray, g, vf.toArray ++ vc.toArray, rfl, fun w => by simp only [invoke]; exact hid.1 _ _, fun w => hid.2 _ w (by simp [h1.len, h2.len])⟩
    have := h B F Mf (Act.put { a with defers := ⟨.fn (.func g) vc.toArray, vf.toArray⟩ :: a.defers } o.dst undef) w hi (Slots.put (a := { a with defers := ⟨.fn (.func g) vc.toArray, vf.toArray⟩ :: a.defers }) hs hd (.val _)) none
    rw [put_defers] at this
    exact wpR_norm (fun e a w h => h.1) (fun a w h => ⟨h.1, _, hd1, h.2⟩) _ _ _ this
theorem ACodeI.region {Q : Exit → Sl → Mem → Prop} {id : Nat} {l : List Oper} (h : AOpsI P n l.toArray (Q .normal) l al M) : ACodeI P n (.region id l.toArray false) Q al M := by
  intro B F Mf a w hi hs
  refine wpIn_region_lit ?_
  exact wpR_norm (fun e a w h => h.1) (fun a w h => by obtain ⟨_, d, h2, h3⟩ := h; exact ⟨d, h2, h3.d⟩) _ _ _ (h B F Mf a w hi hs)
/-- the closure is deferred in the first piece -/
theorem ACodeI.seq {Q : Exit → Sl → Mem → Prop} {x y : Code} (h : ACodeI P n x (Then (ACode none P n y Q) Q) al M) : ACodeI P n (.seq x y) Q al M := by
  intro B F Mf a w hi hs
  refine wpIn_seq (Code.wpIn_mono (fun e a' w' hp => ?_) (h B F Mf a w hi hs))
  obtain ⟨d, hd, hp⟩ := hp
  cases e with
  | normal =>
    obtain ⟨Ds, F', al', M', h1, h2, h3, h4, h5, h6⟩ := hp
    exact Code.wpIn_mono (fun e a'' w'' hp => ⟨d, hd, PostD.next h2 h6 (by rw [← h5]; exact hp)⟩) (h1 B F' _ a' w' h3 h4)
  | exit id => exact ⟨d, hd, hp⟩
  | goto l => exact ⟨d, hd, hp⟩
  | ret => exact ⟨d, hd, hp⟩
  | panic c => exact ⟨d, hd, hp⟩
  | outgrown => exact ⟨d, hd, hp⟩
theorem ACall.enterI {f : FuncId} {fn : Func} {c : Code} {n : Nat} {args : List AV} {R : AV → Mem → Prop} (hf : P.funcs[f]? = some fn) (hb : fn.body = some c) (hname : (fn.name == "runtime.NumGoroutine") = false) (hn : fn.ntmps = n) (hl : args.length ≤ n)
    (h : ACodeI P n c (Out P fn R) (argSl 0 args) M) : ACall P f args M R := by
  refine ⟨enters_of hf hname (by rw [hb]; rfl), fun B F Mf w vs hi hr => ?_⟩
  refine (callsIn_RF (ro := none) (n := 0)).1 (callsIn_of_wp_marks hf hb trivial (Code.wpIn_mono (fun e a' w' hp => ?_) (h B F Mf _ w hi ?_)))
  · have key : ∀ (Ds : List Nat) (d : Deferred) (w' : World) (F' : EH) (al' : Sl) (M' : Mem), Idle P d → (∃ vs v M'', AResL P al' M' fn.results.toList vs ∧ Le (oneOf vs) v ∧ MLe M' M'' ∧ R v M'') → Ext F F' → Inv B F' (M' ++ (Ds.map spent ++ Mf)) w' → Slots n F' al' a'.tmps → Below B w w' →
        LeavesInM (RF none) 0 P fn a'.tmps (fun e w' => ∃ u v M' F', e = .returned u ∧ R v M' ∧ Rel F' v u ∧ Ext F F' ∧ Inv B F' (M' ++ Mf) w' ∧ Below B w w') (Ds.map mark ++ [d]) .returning w' := by
      intro Ds
      induction Ds with
      | nil =>
        rintro d w' F' al' M' ⟨fv, cap, g, ar, hd1, hd2, hd3⟩ ⟨vs, v, M'', k1, k2, k3, k4⟩ h2 h3 h4 h6
        obtain ⟨u, j1, j2⟩ := results_run (P := P) h3 h4 k1
        refine ⟨by simp, .inr ⟨fun h => absurd h (by decide), fv, cap, g, ar, hd1, hd2 w', fun _ _ => trivial, (hd3 w').mono ?_⟩⟩
        rintro e u' w'' ⟨⟨x, rfl⟩, rfl, rfl⟩
        exact ⟨u, j2, u, v, M'', F', rfl, k4, k2 _ _ j1, h2, h3.le k3, h6⟩
      | cons D Ds ih =>
        intro d w' F' al' M' hi2 hq h2 h3 h4 h6
        have h3' : Inv B F' (spent D :: (M' ++ (Ds.map spent ++ Mf))) w' := h3.perm (List.perm_middle (a := spent D) (l₁ := M') (l₂ := Ds.map spent ++ Mf))
        obtain ⟨q1, q2, _⟩ := h3'.objPut (.deferred none)
        obtain ⟨_, _, o, hobj, _, ho⟩ := h3'.ok _ (List.mem_cons_self)
        have ho := ho F' (Ext.refl F')
        subst ho
        exact ⟨by simp, .inl ⟨D, _, rfl, run_takeDeferred hobj, ih d _ F' al' M' hi2 hq h2 q1 h4 (h6.trans q2)⟩⟩
    obtain ⟨d, hd, Ds, F', al', M', hq, h2, h3, h4, h5, h6⟩ := hp
    cases e with
    | normal => have := key Ds d w' F' al' M' hd hq h2 h3 h4 h6; rw [← h5] at this; exact this
    | ret => have := key Ds d w' F' al' M' hd hq h2 h3 h4 h6; rw [← h5] at this; exact this
    | exit id => exact hq.elim
    | goto l => exact hq.elim
    | panic c => exact hq.elim
    | outgrown => exact hq.elim
  · have hlen := hr.len
    refine ⟨by simp [hn]; omega, fun t v e => ?_⟩
    obtain ⟨_, e⟩ := argSl_get args 0 t v e
    obtain ⟨u, h1, h2⟩ := hr.get (i := t) (a := v) (by simpa using e)
    have hlt : t < vs.length := by
      rcases Nat.lt_or_ge t vs.length with k | k
      · exact k
      · rw [List.getElem?_eq_none k] at h1; simp at h1
    refine ⟨by omega, ?_⟩
    have : (vs.toArray ++ Array.replicate (fn.ntmps - vs.toArray.size) undef).getD t undef = u := by
      rw [Array.getD_eq_getD_getElem?, Array.getElem?_append_left (by simpa using hlt)]
      simp [h1]
    rw [this]; exact h2
end
end Go.Proofs.Ytflkdojahfmbnaa
