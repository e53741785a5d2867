/- A logic of trees, part 7: what is left to do, as a stack; calls by kinds of contracts; how a function ends. -/
import Derived.Test.YtflkdojahfmbnaaAL6
namespace Go.Proofs.Ytflkdojahfmbnaa
open Go.RowKit
inductive Kont where
  | code (c : Code)
  | blk (id : Nat)
  | lp (J : Sl → Mem → Prop)
def after (ro : Option Nat) (P : Program) (n : Nat) : List Kont → (Exit → Sl → Mem → Prop) → Exit → Sl → Mem → Prop
  | [], Q => Q
  | .code c :: ks, Q => Then (ACode ro P n c (after ro P n ks Q)) (after ro P n ks Q)
  | .blk id :: ks, Q => InBlk id (after ro P n ks Q)
  | .lp J :: ks, Q => Then J (after ro P n ks Q)
def AGo (ro : Option Nat) (P : Program) (n : Nat) (ks : List Kont) (Q : Exit → Sl → Mem → Prop) (al : Sl) (M : Mem) : Prop := after ro P n ks Q .normal al M
def AX (ro : Option Nat) (P : Program) (n : Nat) (ks : List Kont) (Q : Exit → Sl → Mem → Prop) (id : Nat) (al : Sl) (M : Mem) : Prop := after ro P n ks Q (.exit id) al M
section
variable {ro : Option Nat} {P : Program} {n : Nat} {ks : List Kont} {Q : Exit → Sl → Mem → Prop} {al : Sl} {M : Mem}
theorem go_code {c : Code} (h : ACode ro P n c (after ro P n ks Q) al M) : AGo ro P n (.code c :: ks) Q al M := h
theorem go_blk {id : Nat} (h : AGo ro P n ks Q al M) : AGo ro P n (.blk id :: ks) Q al M := h
theorem go_lp {J : Sl → Mem → Prop} (h : J al M) : AGo ro P n (.lp J :: ks) Q al M := h
theorem go_end (h : Q .normal al M) : AGo ro P n [] Q al M := h
theorem c_start {c : Code} (h : ACode ro P n c (after ro P n [] Q) al M) : ACode ro P n c Q al M := h
theorem c_seq {x y : Code} (h : ACode ro P n x (after ro P n (.code y :: ks) Q) al M) : ACode ro P n (.seq x y) (after ro P n ks Q) al M := ACode.seq h
theorem c_region {id : Nat} {l : List Oper} (h : AOps P n l.toArray (AGo ro P n ks Q) l al M) : ACode ro P n (.region id l.toArray false) (after ro P n ks Q) al M := ACode.region h
theorem c_drawn {id : Nat} {l : List Oper} (hmix : P.follows .mixedOrders = true) (hfl : flowOk n l = true) (h : DOps P l M (fun al' => AGo ro P n ks Q al' M) l al) : ACode ro P n (.region id l.toArray true) (after ro P n ks Q) al M := ACode.drawn hmix hfl h
theorem c_skip (h : AGo ro P n ks Q al M) : ACode ro P n .skip (after ro P n ks Q) al M := ACode.skip h
theorem c_label {l : Nat} (h : AGo ro P n ks Q al M) : ACode ro P n (.label l) (after ro P n ks Q) al M := ACode.label h
theorem c_block {id : Nat} {c : Code} (h : ACode ro P n c (after ro P n (.blk id :: ks) Q) al M) : ACode ro P n (.block id c) (after ro P n ks Q) al M := ACode.block h
theorem c_exit {id : Nat} (h : AX ro P n ks Q id al M) : ACode ro P n (.exit id) (after ro P n ks Q) al M := ACode.exit h
theorem x_code {id : Nat} {c : Code} (h : AX ro P n ks Q id al M) : AX ro P n (.code c :: ks) Q id al M := h
theorem x_lp {id : Nat} {J : Sl → Mem → Prop} (h : AX ro P n ks Q id al M) : AX ro P n (.lp J :: ks) Q id al M := h
theorem x_here {id : Nat} (h : AGo ro P n ks Q al M) : AX ro P n (.blk id :: ks) Q id al M := by
  unfold AX; rw [after]; unfold AGo at h; simpa [InBlk] using h
theorem x_past {id id' : Nat} (hne : (id = id') = False) (h : AX ro P n ks Q id al M) : AX ro P n (.blk id' :: ks) Q id al M := by
  unfold AX at h ⊢; rw [after]; simpa [InBlk, hne] using h
theorem after_ret : ∀ ks : List Kont, after ro P n ks Q .ret = Q .ret
  | [] => rfl
  | .code _ :: ks => after_ret ks
  | .blk _ :: ks => after_ret ks
  | .lp _ :: ks => after_ret ks
theorem c_ret (h : Q .ret al M) : ACode ro P n .ret (after ro P n ks Q) al M := ACode.ret (by rw [after_ret]; exact h)
theorem c_cond {c : Operand} {x y : Code} {b : Bool} (hc : al.ev c = some (.val (.bool b))) (h1 : b = true → ACode ro P n x (after ro P n ks Q) al M) (h2 : b = false → ACode ro P n y (after ro P n ks Q) al M) : ACode ro P n (.cond c x y) (after ro P n ks Q) al M := ACode.cond hc h1 h2
theorem c_cond_t {c : Operand} {x y : Code} (hc : al.ev c = some (.val (.bool true))) (h1 : ACode ro P n x (after ro P n ks Q) al M) : ACode ro P n (.cond c x y) (after ro P n ks Q) al M := ACode.cond hc (fun _ => h1) (fun h => by simp at h)
theorem c_cond_f {c : Operand} {x y : Code} (hc : al.ev c = some (.val (.bool false))) (h1 : ACode ro P n y (after ro P n ks Q) al M) : ACode ro P n (.cond c x y) (after ro P n ks Q) al M := ACode.cond hc (fun h => by simp at h) (fun _ => h1)
/-- the back of a loop's round -/
def Back {σ : Type} (alx : σ → Sl) (Mx : σ → Mem) (I : σ → Prop) (μ : σ → Nat) (m : Nat) (al : Sl) (M : Mem) : Prop := ∃ x, I x ∧ μ x < m ∧ SLe al (alx x) ∧ MLe M (Mx x)
theorem c_loop {c : Code} {σ : Type} (alx : σ → Sl) (Mx : σ → Mem) (I : σ → Prop) (μ : σ → Nat) (x0 : σ) (h0 : I x0) (hs : SLe al (alx x0)) (hm : MLe M (Mx x0))
    (h : ∀ x, I x → ACode ro P n c (after ro P n (.lp (Back alx Mx I μ (μ x)) :: ks) Q) (alx x) (Mx x)) : ACode ro P n (.loop c) (after ro P n ks Q) al M := by
  refine ACode.loop (fun x al M => I x ∧ SLe al (alx x) ∧ MLe M (Mx x)) μ x0 ⟨h0, hs, hm⟩ ?_
  rintro x al M ⟨h1, h2, h3⟩
  refine ACode.le h2 h3 (ACode.mono (h x h1) ?_)
  intro e al M he
  cases e with
  | normal =>
    obtain ⟨x', k1, k2, k3, k4⟩ := he
    exact ⟨x', ⟨k1, k3, k4⟩, k2⟩
  | exit id => exact he
  | goto l => exact he
  | ret => exact he
  | panic c => exact he
  | outgrown => exact he
/-- no slice is longer than an int: one that lies in memory, one in a slot, one in a struct in a slot -/
theorem c_lenm {c : Code} {i j b m : Nat} {cs : List AV} {v : AV} {es : List (List AV)} (hm : M[i]? = some (.loc b cs)) (hj : cs[j]? = some v) (hq : IsSeq v m es) (h : es.length ≤ 9223372036854775807 → ACode ro P n c (after ro P n ks Q) al M) : ACode ro P n c (after ro P n ks Q) al M := by
  intro B F Mf a w hi hs
  obtain ⟨_, _, vs, T, _, hr, _⟩ := hi.loc hm
  obtain ⟨u, _, hu⟩ := hr.get hj
  exact h (hq.rel hu).seq_max B F Mf a w hi hs
theorem c_lens {c : Code} {t m : Nat} {v : AV} {es : List (List AV)} (ht : al.lookup t = some v) (hq : IsSeq v m es) (h : es.length ≤ 9223372036854775807 → ACode ro P n c (after ro P n ks Q) al M) : ACode ro P n c (after ro P n ks Q) al M := by
  intro B F Mf a w hi hs
  exact h (hq.rel (hs.2 t v ht).2).seq_max B F Mf a w hi hs
theorem c_lena {c : Code} {t j m : Nat} {cs : List AV} {v : AV} {es : List (List AV)} (ht : al.lookup t = some (.agg cs)) (hj : cs[j]? = some v) (hq : IsSeq v m es) (h : es.length ≤ 9223372036854775807 → ACode ro P n c (after ro P n ks Q) al M) : ACode ro P n c (after ro P n ks Q) al M := by
  intro B F Mf a w hi hs
  have h2 := (hs.2 t _ ht).2
  generalize a.tmps.getD t undef = y at h2
  cases h2 with
  | agg hr _ =>
    obtain ⟨u, _, hu⟩ := hr.get hj
    exact h (hq.rel hu).seq_max B F Mf a w hi hs
/-- go on with weaker words -/
theorem c_le {c : Code} {al' : Sl} {M' : Mem} (hs : SLe al al') (hm : MLe M M') (h : ACode ro P n c (after ro P n ks Q) al' M') : ACode ro P n c (after ro P n ks Q) al M := ACode.le hs hm h
theorem go_le {al' : Sl} {M' : Mem} (hs : SLe al al') (hm : MLe M M') : ∀ {ks : List Kont}, AGo ro P n ks Q al' M' → (∃ c ks', ks = .code c :: ks') → AGo ro P n ks Q al M := by
  intro ks h hk
  obtain ⟨c, ks', rfl⟩ := hk
  exact ACode.le hs hm h
end
theorem SLe.wo (al : Sl) (t : Nat) : SLe al (al.filter fun x => !Nat.beq x.1 t) := fun s u e => by
  refine ⟨u, ?_, Le.refl u⟩
  induction al with
  | nil => exact e
  | cons x al ih =>
    rw [List.filter_cons] at e
    by_cases q : Nat.beq x.1 t = true
    · rw [q] at e
      simp at e
      by_cases r : s = x.1
      · exfalso
        have h1 : x.1 = t := Nat.eq_of_beq_eq_true q
        have key : ∀ l : Sl, List.lookup s (l.filter fun x => !Nat.beq x.1 t) = none := by
          intro l
          induction l with
          | nil => rfl
          | cons y l ih2 =>
            rw [List.filter_cons]
            split
            · rename_i hy
              have : (s == y.1) = false := by
                have : s ≠ y.1 := fun h => by
                  have : Nat.beq y.1 t = true := by rw [← h, r, h1]; exact Nat.beq_refl t
                  rw [this] at hy; simp at hy
                simpa using this
              rw [List.lookup, this]; exact ih2
            · exact ih2
        rw [key al] at e; simp at e
      · have : (s == x.1) = false := by simpa using r
        rw [List.lookup, this]; exact ih e
    · rw [if_pos (by cases hq : Nat.beq x.1 t <;> simp_all)] at e
      by_cases r : s = x.1
      · subst r
        rw [List.lookup] at e ⊢
        simpa using e
      · have : (s == x.1) = false := by simpa using r
        rw [List.lookup, this] at e ⊢
        exact ih e
theorem SLe.refl (al : Sl) : SLe al al := fun _ v h => ⟨v, h, Le.refl v⟩
theorem SLe.fresh {al al' : Sl} {t : Nat} {v : AV} (ht : al'.lookup t = none) (h : SLe al al') : SLe ((t, v) :: al) al' := fun s u e => by
  by_cases q : s = t
  · subst q; rw [ht] at e; simp at e
  · have : (s == t) = false := by simpa using q
    obtain ⟨v', h1, h2⟩ := h s u e
    exact ⟨v', by rw [List.lookup, this]; exact h1, h2⟩
section
variable {ro : Option Nat} {P : Program} {n : Nat} {ops : Array Oper} {Q : Sl → Mem → Prop} {al : Sl} {M : Mem} {o : Oper} {K : AV → Mem → Prop}
theorem AOps.mono {Q' : Sl → Mem → Prop} {l : List Oper} (h : AOps P n ops Q' l al M) (hq : ∀ al M, Q' al M → Q al M) : AOps P n ops Q l al M := by
  intro B F Mf a w hi hs ro
  exact wpR_norm (fun e a w h => h.1) (fun a w h => ⟨h.1, h.2.mono hq⟩) _ _ _ (h B F Mf a w hi hs ro)
theorem AOps.le {l : List Oper} {al' : Sl} {M' : Mem} (hs : SLe al al') (hm : MLe M M') (h : AOps P n ops Q l al' M') : AOps P n ops Q l al M :=
  fun B F Mf a w hi hsl => h B F Mf a w (hi.le hm) (hsl.le hs)
/-- a region that answers a bool -/
def Sl.wo (al : Sl) (t : Nat) : Sl := al.filter fun x => !Nat.beq x.1 t
def BoolQ (al : Sl) (M : Mem) (tf : Nat) (p : Prop) (al' : Sl) (M' : Mem) : Prop := ∃ c : Bool, (c = true ↔ p) ∧ SLe al' ((tf, .val (.bool c)) :: al.wo tf) ∧ MLe M' M
theorem BoolQ.mk {al : Sl} {M : Mem} {tf : Nat} {p : Prop} {al' : Sl} {M' : Mem} {c : Bool} (h : al'.lookup tf = some (.val (.bool c))) (hp : c = true ↔ p) (hs : SLe al' (al.wo tf)) (hm : MLe M' M) : BoolQ al M tf p al' M' := ⟨c, hp, SLe.cons h (Le.refl _) hs, hm⟩
theorem c_bool {ks : List Kont} {QQ : Exit → Sl → Mem → Prop} {id : Nat} {l : List Oper} (tf : Nat) (p : Prop) (h : AOps P n l.toArray (BoolQ al M tf p) l al M) (c0 : Code) (ks' : List Kont) (hks : ks = .code c0 :: ks') (k : ∀ c : Bool, (c = true ↔ p) → AGo ro P n ks QQ ((tf, .val (.bool c)) :: al.wo tf) M) : ACode ro P n (.region id l.toArray false) (after ro P n ks QQ) al M := by
  subst hks
  refine c_region (AOps.mono h ?_)
  rintro al' M' ⟨c, h1, h2, h3⟩
  exact ACode.le h2 h3 (k c h1)
theorem c_boold {ks : List Kont} {QQ : Exit → Sl → Mem → Prop} {id : Nat} {l : List Oper} (tf : Nat) (p : Prop) (hmix : P.follows .mixedOrders = true) (hfl : flowOk n l = true) (h : DOps P l M (fun al' => BoolQ al M tf p al' M) l al) (c0 : Code) (ks' : List Kont) (hks : ks = .code c0 :: ks') (k : ∀ c : Bool, (c = true ↔ p) → AGo ro P n ks QQ ((tf, .val (.bool c)) :: al.wo tf) M) : ACode ro P n (.region id l.toArray true) (after ro P n ks QQ) al M := by
  subst hks
  have mono : ∀ {l' : List Oper} {al0 : Sl}, DOps P l M (fun al' => BoolQ al M tf p al' M) l' al0 → DOps P l M (fun al' => AGo ro P n (.code c0 :: ks') QQ al' M) l' al0 := by
    intro l'
    induction l' with
    | nil =>
      intro al0 h
      obtain ⟨c, h1, h2, h3⟩ := h
      exact ACode.le h2 h3 (k c h1)
    | cons o l' ih =>
      rintro al0 ⟨v, h1, h2⟩
      exact ⟨v, h1, ih h2⟩
  exact c_drawn hmix hfl (mono h)
theorem bool_split {c : Bool} {p : Prop} (h : c = true ↔ p) : (c = false ∧ ¬ p) ∨ (c = true ∧ p) := by
  cases c <;> simp at h <;> simp [h]
theorem nott {c c' : Bool} {p : Prop} (h' : c' = true ↔ c = false) (h : c = true ↔ p) : c' = true ↔ ¬ p := by
  cases c <;> cases c' <;> simp_all
theorem AOps.guard_t {rest : List Oper} {j : Nat} {b : Bool} {t : Tmp} (hg : o.guard = some (j, b)) (hj : (ops[j]?).bind (·.dst) = some t) (hd : o.dst.all (· < n) = true) (hc : al.lookup t = some (.val (.bool b))) (h1 : AOps P n ops Q ({ o with guard := none } :: rest) al M) : AOps P n ops Q (o :: rest) al M :=
  AOps.guard hg hj hd hc (fun _ => h1) (fun e => by cases b <;> simp at e)
theorem AOps.guard_f {rest : List Oper} {j : Nat} {b : Bool} {t : Tmp} (hg : o.guard = some (j, b)) (hj : (ops[j]?).bind (·.dst) = some t) (hd : o.dst.all (· < n) = true) (hc : al.lookup t = some (.val (.bool !b))) (h1 : AOps P n ops Q rest (al.put o.dst (.val undef)) M) : AOps P n ops Q (o :: rest) al M :=
  AOps.guard hg hj hd hc (fun e => by cases b <;> simp at e) (fun _ => h1)
theorem AOps.st {rest : List Oper} (d : Nat) (hg : o.guard = none) (hd : o.dst = some d) (hn : Nat.blt d n = true) (h : OpT P o al M (fun v M' => AOps P n ops Q rest ((d, v) :: al) M')) : AOps P n ops Q (o :: rest) al M :=
  AOps.step hg (by rw [hd]; simpa [Nat.blt_eq] using hn) (by rw [hd]; exact h)
theorem AOps.st0 {rest : List Oper} (hg : o.guard = none) (hd : o.dst = none) (h : OpT P o al M (fun _ M' => AOps P n ops Q rest al M')) : AOps P n ops Q (o :: rest) al M :=
  AOps.step hg (by rw [hd]; rfl) (by rw [hd]; exact h)
theorem AOps.gt {rest : List Oper} {j : Nat} {b : Bool} {t : Tmp} (d : Nat) (hg : o.guard = some (j, b)) (hj : (ops[j]?).bind (·.dst) = some t) (hd : o.dst = some d) (hn : Nat.blt d n = true) (hc : al.lookup t = some (.val (.bool b))) (h : OpT P { o with guard := none } al M (fun v M' => AOps P n ops Q rest ((d, v) :: al) M')) : AOps P n ops Q (o :: rest) al M :=
  AOps.guard_t hg hj (by rw [hd]; simpa [Nat.blt_eq] using hn) hc (AOps.st (o := { o with guard := none }) d rfl hd hn h)
theorem AOps.gf {rest : List Oper} {j : Nat} {b : Bool} {t : Tmp} (d : Nat) (hg : o.guard = some (j, b)) (hj : (ops[j]?).bind (·.dst) = some t) (hd : o.dst = some d) (hn : Nat.blt d n = true) (hc : al.lookup t = some (.val (.bool !b))) (h1 : AOps P n ops Q rest ((d, .val undef) :: al) M) : AOps P n ops Q (o :: rest) al M :=
  AOps.guard_f hg hj (by rw [hd]; simpa [Nat.blt_eq] using hn) hc (by rw [hd]; exact h1)
theorem AOps.gu {rest : List Oper} {j : Nat} {b : Bool} {t : Tmp} (d : Nat) (hg : o.guard = some (j, b)) (hj : (ops[j]?).bind (·.dst) = some t) (hd : o.dst = some d) (hn : Nat.blt d n = true) (hc : al.lookup t = some (.val undef)) (h1 : AOps P n ops Q rest ((d, .val undef) :: al) M) : AOps P n ops Q (o :: rest) al M :=
  AOps.unguard hg hj (by rw [hd]; simpa [Nat.blt_eq] using hn) hc (by rw [hd]; exact h1)
theorem DOps.st {opl : List Oper} {QD : Sl → Prop} {rest : List Oper} {v : AV} (d : Nat) (hg : o.guard = none) (hd : o.dst = some d) (h : OpT P o (al.only (Oper.tmps o)) M (fun v' M' => v' = v ∧ M' = M)) (q : DOps P opl M QD rest ((d, v) :: al)) : DOps P opl M QD (o :: rest) al :=
  DOps.step hg h (by rw [hd]; exact q)
theorem DOps.cm {opl : List Oper} {QD : Sl → Prop} {rest : List Oper} {p : Prop} (d : Nat) (hg : o.guard = none) (hd : o.dst = some d) (h : ∀ K : AV → Mem → Prop, (∀ c : Bool, (c = true ↔ p) → K (.val (.bool c)) M) → OpT P o (al.only (Oper.tmps o)) M K) (q : ∀ c : Bool, (c = true ↔ p) → DOps P opl M QD rest ((d, .val (.bool c)) :: al)) : DOps P opl M QD (o :: rest) al :=
  DOps.cmp hg h (by rw [hd]; exact q)
theorem DOps.gt {opl : List Oper} {QD : Sl → Prop} {rest : List Oper} {j : Nat} {b : Bool} {t : Tmp} {v : AV} (d : Nat) (hg : o.guard = some (j, b)) (hj : (opl[j]?).bind (·.dst) = some t) (hd : o.dst = some d) (hc : al.lookup t = some (.val (.bool b))) (h : OpT P { o with guard := none } (al.only (Oper.tmps o)) M (fun v' M' => v' = v ∧ M' = M)) (q : DOps P opl M QD rest ((d, v) :: al)) : DOps P opl M QD (o :: rest) al :=
  DOps.guard hg hj hc (fun _ => DOps.st (o := { o with guard := none }) d rfl hd h q) (fun e => by cases b <;> simp at e)
theorem DOps.gtc {opl : List Oper} {QD : Sl → Prop} {rest : List Oper} {j : Nat} {b : Bool} {t : Tmp} {p : Prop} (d : Nat) (hg : o.guard = some (j, b)) (hj : (opl[j]?).bind (·.dst) = some t) (hd : o.dst = some d) (hc : al.lookup t = some (.val (.bool b))) (h : ∀ K : AV → Mem → Prop, (∀ c : Bool, (c = true ↔ p) → K (.val (.bool c)) M) → OpT P { o with guard := none } (al.only (Oper.tmps o)) M K) (q : ∀ c : Bool, (c = true ↔ p) → DOps P opl M QD rest ((d, .val (.bool c)) :: al)) : DOps P opl M QD (o :: rest) al :=
  DOps.guard hg hj hc (fun _ => DOps.cm (o := { o with guard := none }) d rfl hd h q) (fun e => by cases b <;> simp at e)
theorem DOps.gf {opl : List Oper} {QD : Sl → Prop} {rest : List Oper} {j : Nat} {b : Bool} {t : Tmp} (d : Nat) (hg : o.guard = some (j, b)) (hj : (opl[j]?).bind (·.dst) = some t) (hd : o.dst = some d) (hc : al.lookup t = some (.val (.bool !b))) (q : DOps P opl M QD rest ((d, .val undef) :: al)) : DOps P opl M QD (o :: rest) al :=
  DOps.guard hg hj hc (fun e => by cases b <;> simp at e) (fun _ => by rw [hd]; exact q)
theorem DOps.gu {opl : List Oper} {QD : Sl → Prop} {rest : List Oper} {j : Nat} {b : Bool} {t : Tmp} (d : Nat) (hg : o.guard = some (j, b)) (hj : (opl[j]?).bind (·.dst) = some t) (hd : o.dst = some d) (hc : al.lookup t = some (.val undef)) (q : DOps P opl M QD rest ((d, .val undef) :: al)) : DOps P opl M QD (o :: rest) al :=
  DOps.unguard hg hj hc (by rw [hd]; exact q)
/-- a call that answers one tree -/
abbrev PCall (P : Program) (f : FuncId) (vs : List AV) (r : AV) : Prop := ACall P f vs [] (fun v M' => v = r ∧ M' = [])
/-- a call that answers a bool -/
abbrev BCall (P : Program) (f : FuncId) (vs : List AV) (p : Prop) : Prop := ACall P f vs [] (fun v M' => (∃ c : Bool, (c = true ↔ p) ∧ v = .val (.bool c)) ∧ M' = [])
/-- a call that answers a slice of its own -/
abbrev OCall (P : Program) (f : FuncId) (vs : List AV) (e : TypeId) (m : Nat) (es : List (List AV)) : Prop := ACall P f vs [] (fun v M' => ∃ u, v = .own u m es ∧ M' = [.own e m u])
theorem op_callp {f : FuncId} {xs : List Operand} {ts : Array TypeId} {vs vs' : List AV} {r : AV} (ho : o.op = .call { callee := .value (.func f), args := xs.toArray, argTypes := ts }) (hx : xs.mapM al.ev = some vs) (hc : PCall P f vs' r) (hl : Les vs vs') (q : K r M) : OpT P o al M K :=
  op_call ho hx ((ACall.args hl hc).frame M) (by rintro v M' ⟨M0, rfl, rfl, rfl⟩; exact q)
theorem op_callb {f : FuncId} {xs : List Operand} {ts : Array TypeId} {vs vs' : List AV} {p : Prop} (ho : o.op = .call { callee := .value (.func f), args := xs.toArray, argTypes := ts }) (hx : xs.mapM al.ev = some vs) (hc : BCall P f vs' p) (hl : Les vs vs') (q : ∀ c : Bool, (c = true ↔ p) → K (.val (.bool c)) M) : OpT P o al M K :=
  op_call ho hx ((ACall.args hl hc).frame M) (by rintro v M' ⟨M0, rfl, ⟨c, h1, rfl⟩, rfl⟩; exact q c h1)
theorem op_callo {f : FuncId} {xs : List Operand} {ts : Array TypeId} {vs vs' : List AV} {e : TypeId} {m : Nat} {es : List (List AV)} (ho : o.op = .call { callee := .value (.func f), args := xs.toArray, argTypes := ts }) (hx : xs.mapM al.ev = some vs) (hc : OCall P f vs' e m es) (hl : Les vs vs') (q : ∀ u, K (.own u m es) (.own e m u :: M)) : OpT P o al M K :=
  op_call ho hx ((ACall.args hl hc).frame M) (by rintro v M' ⟨M0, rfl, u, rfl, rfl⟩; exact q u)
/-- a call with memory of its own: the first of the caller's -/
theorem op_callg {f : FuncId} {xs : List Operand} {ts : Array TypeId} {vs vs' : List AV} {M1 M2 : Mem} {R : AV → Mem → Prop} (ho : o.op = .call { callee := .value (.func f), args := xs.toArray, argTypes := ts }) (hx : xs.mapM al.ev = some vs) (hc : ACall P f vs' M1 R) (hl : Les vs vs') (hp : M.Perm (M1 ++ M2)) (q : ∀ v M', R v M' → K v (M' ++ M2)) : OpT P o al M K :=
  op_call ho hx (((ACall.args hl hc).frame M2).perm hp) (by rintro v M' ⟨M0, rfl, h⟩; exact q v M0 h)
theorem op_callvg {x : Operand} {f : FuncId} {fs cs : List AV} {xs : List Operand} {ts : Array TypeId} {vs vs' : List AV} {M1 M2 : Mem} {R : AV → Mem → Prop} (ho : o.op = .call { callee := .value x, args := xs.toArray, argTypes := ts }) (hf : al.ev x = some (.clo (.func f) fs cs)) (hx : xs.mapM al.ev = some vs) (hc : ACall P f vs' M1 R) (hl : Les (fs ++ vs ++ cs) vs') (hp : M.Perm (M1 ++ M2)) (q : ∀ v M', R v M' → K v (M' ++ M2)) : OpT P o al M K :=
  op_callv ho hf hx (((ACall.args hl hc).frame M2).perm hp) (by rintro v M' ⟨M0, rfl, h⟩; exact q v M0 h)
theorem ACall.weak {f : FuncId} {vs : List AV} {R R' : AV → Mem → Prop} (h : ACall P f vs M R) (hr : ∀ v M', R v M' → ∃ v' M'', Le v v' ∧ MLe M' M'' ∧ R' v' M'') : ACall P f vs M R' :=
  ⟨h.ent, fun B F Mf w us hi hv => (h.run B F Mf w us hi hv).mono fun _ _ ⟨u, v, M', F', h1, h2, h3, h4, h5, h6⟩ => by
    obtain ⟨v', M'', k1, k2, k3⟩ := hr v M' h2
    exact ⟨u, v', M'', F', h1, k3, k1 _ _ h3, h4, h5.le k2, h6⟩⟩
theorem OCall.pure {f : FuncId} {vs : List AV} {e : TypeId} {m : Nat} {es : List (List AV)} (h : OCall P f vs e m es) : PCall P f vs (.seq m es) :=
  ACall.weak h (by rintro v M' ⟨u, rfl, rfl⟩; exact ⟨_, [], Le.own _ _ _, MLe.none _, rfl, rfl⟩)
theorem op_notc {x : Operand} {t : TypeId} {b : Bool} (ho : o.op = .unOp .not t x) (hx : al.ev x = some (.val (.bool b))) (q : ∀ c : Bool, (c = true ↔ b = false) → K (.val (.bool c)) M) : OpT P o al M K :=
  op_not ho hx (q (!b) (by simp))
end
theorem Le.own_eq {u : Value} {m : Nat} {es es' : List (List AV)} (h : es = es') : Le (.own u m es) (.own u m es') := by rw [h]; exact Le.refl _
theorem Le.own_seq {u : Value} {m : Nat} {es es' : List (List AV)} (h : es = es') : Le (.own u m es) (.seq m es') := by rw [h]; exact Le.own _ _ _
theorem Le.seq_eq {m : Nat} {es es' : List (List AV)} (h : es = es') : Le (.seq m es) (.seq m es') := by rw [h]; exact Le.refl _
/-- a function's end: two results -/
theorem out_tc {P : Program} {fn : Func} {R : AV → Mem → Prop} {al : Sl} {M M' : Mem} {t1 t T b s i : Nat} {cs : List AV} {v v' : AV} (hr : fn.results = #[.tmp t1, .cell t T]) (h1 : al.lookup t1 = some v) (hv : al.lookup t = some (.ptr b 0)) (hm0 : M[i]? = some (.loc b cs)) (ht : tyAgg P T = some (some s)) (hs : cs.length = s) (hl : Le (.tup [v, .agg cs]) v') (hm : MLe M M') (h : R v' M') : Out P fn R .ret al M :=
  ⟨[v, .agg cs], v', M', by rw [hr]; exact .cons h1 (.cons ⟨b, 0, i, cs, hv, hm0, .inl ⟨s, ht, by rw [List.drop_zero, ← hs, List.take_length], by omega⟩⟩ .nil), hl, hm, h⟩
theorem out_ct {P : Program} {fn : Func} {R : AV → Mem → Prop} {al : Sl} {M M' : Mem} {t1 t T b s i : Nat} {cs : List AV} {v v' : AV} (hr : fn.results = #[.cell t T, .tmp t1]) (h1 : al.lookup t1 = some v) (hv : al.lookup t = some (.ptr b 0)) (hm0 : M[i]? = some (.loc b cs)) (ht : tyAgg P T = some (some s)) (hs : cs.length = s) (hl : Le (.tup [.agg cs, v]) v') (hm : MLe M M') (h : R v' M') : Out P fn R .ret al M :=
  ⟨[.agg cs, v], v', M', by rw [hr]; exact .cons ⟨b, 0, i, cs, hv, hm0, .inl ⟨s, ht, by rw [List.drop_zero, ← hs, List.take_length], by omega⟩⟩ (.cons h1 .nil), hl, hm, h⟩
theorem out_tt {P : Program} {fn : Func} {R : AV → Mem → Prop} {al : Sl} {M M' : Mem} {t1 t2 : Nat} {v1 v2 v' : AV} (hr : fn.results = #[.tmp t1, .tmp t2]) (h1 : al.lookup t1 = some v1) (h2 : al.lookup t2 = some v2) (hl : Le (.tup [v1, v2]) v') (hm : MLe M M') (h : R v' M') : Out P fn R .ret al M :=
  ⟨[v1, v2], v', M', by rw [hr]; exact .cons h1 (.cons h2 .nil), hl, hm, h⟩
theorem out_ttt {P : Program} {fn : Func} {R : AV → Mem → Prop} {al : Sl} {M M' : Mem} {t1 t2 t3 : Nat} {v1 v2 v3 v' : AV} (hr : fn.results = #[.tmp t1, .tmp t2, .tmp t3]) (h1 : al.lookup t1 = some v1) (h2 : al.lookup t2 = some v2) (h3 : al.lookup t3 = some v3) (hl : Le (.tup [v1, v2, v3]) v') (hm : MLe M M') (h : R v' M') : Out P fn R .ret al M :=
  ⟨[v1, v2, v3], v', M', by rw [hr]; exact .cons h1 (.cons h2 (.cons h3 .nil)), hl, hm, h⟩
/-- a function's end: one slot -/
theorem out_tmp {P : Program} {fn : Func} {R : AV → Mem → Prop} {al : Sl} {M M' : Mem} {t : Nat} {v v' : AV} (hr : fn.results = #[.tmp t]) (hv : al.lookup t = some v) (hl : Le v v') (hm : MLe M M') (h : R v' M') : Out P fn R .ret al M :=
  ⟨[v], v', M', by rw [hr]; exact .cons hv .nil, hl, hm, h⟩
theorem out_none {P : Program} {fn : Func} {R : AV → Mem → Prop} {al : Sl} {M M' : Mem} (hr : fn.results = #[]) (hm : MLe M M') (h : R (.tup []) M') : Out P fn R .normal al M :=
  ⟨[], _, M', by rw [hr]; exact .nil, Le.refl _, hm, h⟩
theorem out_none' {P : Program} {fn : Func} {R : AV → Mem → Prop} {al : Sl} {M M' : Mem} (hr : fn.results = #[]) (hm : MLe M M') (h : R (.tup []) M') : Out P fn R .ret al M :=
  ⟨[], _, M', by rw [hr]; exact .nil, Le.refl _, hm, h⟩
theorem out_cell {P : Program} {fn : Func} {R : AV → Mem → Prop} {al : Sl} {M M' : Mem} {t T b s i : Nat} {cs : List AV} {v' : AV} (hr : fn.results = #[.cell t T]) (hv : al.lookup t = some (.ptr b 0)) (hm0 : M[i]? = some (.loc b cs)) (ht : tyAgg P T = some (some s)) (hs : cs.length = s) (hl : Le (.agg cs) v') (hm : MLe M M') (h : R v' M') : Out P fn R .ret al M :=
  ⟨[.agg cs], v', M', by rw [hr]; exact .cons ⟨b, 0, i, cs, hv, hm0, .inl ⟨s, ht, by rw [List.drop_zero, ← hs, List.take_length], by omega⟩⟩ .nil, hl, hm, h⟩
end Go.Proofs.Ytflkdojahfmbnaa
