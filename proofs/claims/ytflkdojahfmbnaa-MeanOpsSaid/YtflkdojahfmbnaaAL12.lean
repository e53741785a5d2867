/- The logic of trees, part 12: loops and joins that keep the slots that they do not turn. -/
import Derived.Test.YtflkdojahfmbnaaAL11
namespace Go.Proofs.Ytflkdojahfmbnaa
open Go.RowKit
inductive Drops (ds : List Nat) : Sl → Sl → Prop
  | nil : Drops ds [] []
  | skip {t : Nat} {v : AV} {al al' : Sl} (h : ds.contains t = true) (k : Drops ds al al') : Drops ds ((t, v) :: al) al'
  | keep {t : Nat} {v : AV} {al al' : Sl} (h : ds.contains t = false) (k : Drops ds al al') : Drops ds ((t, v) :: al) ((t, v) :: al')
theorem Drops.at {ds : List Nat} {al al' : Sl} (h : Drops ds al al') : ∀ t, (ds.contains t = false → al.lookup t = al'.lookup t) ∧ (ds.contains t = true → al'.lookup t = none) := by
  induction h with
  | nil => intro t; simp
  | @skip t v al al' h k ih =>
    intro s
    refine ⟨fun hs => ?_, (ih s).2⟩
    have : (s == t) = false := by
      by_cases e : s = t
      · subst e; rw [h] at hs; cases hs
      · simpa using e
    simp only [List.lookup_cons, this]
    exact (ih s).1 hs
  | @keep t v al al' h k ih =>
    intro s
    constructor
    · intro hs
      simp only [List.lookup_cons]
      cases (s == t) with
      | true => rfl
      | false => exact (ih s).1 hs
    · intro hs
      have : (s == t) = false := by
        by_cases e : s = t
        · subst e; rw [h] at hs; cases hs
        · simpa using e
      simp only [List.lookup_cons, this]
      exact (ih s).2 hs
theorem Drops.sle {ds : List Nat} {al al' : Sl} (h : Drops ds al al') : SLe al al' := fun t v e => by
  cases q : ds.contains t with
  | true => rw [((h.at t).2 q)] at e; cases e
  | false => exact ⟨v, by rw [(h.at t).1 q]; exact e, Le.refl _⟩
theorem SLe.app {al a b : Sl} (ha : SLe al a) (hb : SLe al b) : SLe al (a ++ b) := by
  intro t v e
  have e2 : List.lookup t (a ++ b) = (List.lookup t a).or (List.lookup t b) := List.lookup_append
  rw [e2] at e
  cases q : List.lookup t a with
  | some u => rw [q] at e; simp at e; subst e; exact ha t u q
  | none => rw [q] at e; simp at e; exact hb t v e
section
variable {ro : Option Nat} {P : Program} {n : Nat} {ks : List Kont} {Q : Exit → Sl → Mem → Prop} {al al' : Sl} {M : Mem} {σ : Type}
theorem c_loopk {c : Code} (ds : List Nat) (chg : σ → Sl) (Mx : σ → Mem) (I : σ → Prop) (μ : σ → Nat) (x0 : σ) (hd : Drops ds al al') (h0 : I x0) (hs : SLe al (chg x0)) (hm : MLe M (Mx x0))
    (h : ∀ x, I x → ACode ro P n c (after ro P n (.lp (Back (fun x => chg x ++ al') Mx I μ (μ x)) :: ks) Q) (chg x ++ al') (Mx x)) : ACode ro P n (.loop c) (after ro P n ks Q) al M :=
  c_loop (fun x => chg x ++ al') Mx I μ x0 h0 (hs.app hd.sle) hm h
theorem c_loopkm {c : Code} (ds : List Nat) (chg : σ → Sl) (I : σ → Prop) (μ : σ → Nat) (x0 : σ) (hd : Drops ds al al') (h0 : I x0) (hs : SLe al (chg x0))
    (h : ∀ x, I x → ACode ro P n c (after ro P n (.lp (Back (fun x => chg x ++ al') (fun _ => M) I μ (μ x)) :: ks) Q) (chg x ++ al') M) : ACode ro P n (.loop c) (after ro P n ks Q) al M :=
  c_loop (fun x => chg x ++ al') (fun _ => M) I μ x0 h0 (hs.app hd.sle) (MLe.refl _) h
theorem c_joink {c c0 : Code} (ds : List Nat) (chg : σ → Sl) (Mx : σ → Mem) (I : σ → Prop) (_ : Drops ds al al') (h : ACode ro P n c (after ro P n [.lp (Meets (fun x => chg x ++ al') Mx I)] (after ro P n (.code c0 :: ks) Q)) al M) (k : ∀ x, I x → AGo ro P n (.code c0 :: ks) Q (chg x ++ al') (Mx x)) : ACode ro P n c (after ro P n (.code c0 :: ks) Q) al M :=
  c_join (fun x => chg x ++ al') Mx I h k
theorem c_joinkm {c c0 : Code} (ds : List Nat) (chg : σ → Sl) (I : σ → Prop) (_ : Drops ds al al') (h : ACode ro P n c (after ro P n [.lp (Meets (fun x => chg x ++ al') (fun _ => M) I)] (after ro P n (.code c0 :: ks) Q)) al M) (k : ∀ x, I x → AGo ro P n (.code c0 :: ks) Q (chg x ++ al') M) : ACode ro P n c (after ro P n (.code c0 :: ks) Q) al M :=
  c_join (fun x => chg x ++ al') (fun _ => M) I h k
end
/-- a call that answers some bool -/
abbrev ZCall (P : Program) (f : FuncId) (vs : List AV) : Prop := ACall P f vs [] (fun v M => (∃ c : Bool, v = .val (.bool c)) ∧ M = [])
theorem op_callz {P : Program} {o : Oper} {al : Sl} {M : Mem} {K : AV → Mem → Prop} {f : FuncId} {xs : List Operand} {ts : Array TypeId} {vs vs' : List AV} (ho : o.op = .call { callee := .value (.func f), args := xs.toArray, argTypes := ts }) (hx : xs.mapM al.ev = some vs) (hc : ZCall P f vs') (hl : Les vs vs') (q : ∀ c : Bool, (c = true ↔ c = true) → K (.val (.bool c)) M) : OpT P o al M K :=
  op_call ho hx ((ACall.args hl hc).frame M) (by rintro v M' ⟨M0, rfl, ⟨c, rfl⟩, rfl⟩; exact q c Iff.rfl)
end Go.Proofs.Ytflkdojahfmbnaa
