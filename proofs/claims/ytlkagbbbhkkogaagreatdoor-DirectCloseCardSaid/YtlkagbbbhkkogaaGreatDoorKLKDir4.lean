/- Parts of a proof: The evaluator: regions in the text's order, and what is kept of their slots.; The evaluator: an operation looks at its own slots alone.; The evaluator: a region whose order is drawn: what our own order has shown.; The evaluator: a region whose order is drawn: names, slots, what comes before.; The evaluator: a region whose order is drawn: every order does what ours has done.; The evaluator: a region whose order is drawn.; The evaluator: regions.; The evaluator: regions are what it says.; The evaluator: regions, and what two ways agree on.; The evaluator: code is what it says.; The evaluator: functions are what it says.; The evaluator: a call that was run once is known. -/
import Derived.Test.YtlkagbbbhkkogaaGreatDoorKLKDir3
import Derived.Orders
import Derived.Scope
set_option maxRecDepth 100000
set_option maxHeartbeats 4000000
namespace Go.Proofs.YtlkagbbbhkkogaaGreatDoor
open Go.RowKit
namespace NE
section
variable {P:Program} {call:CallF}
structure Lft (B:Nat) (e:Env) (f:Mu) (nx:Nat) (w:World) (l':Lc) (s':SS) (m':SM) (nx':Nat) (a a':Act) (w':World) (e':Env):Prop where
 ee:EE e e'
 out:∀ k,(k<nx∨nx'≤k)→e' k=e k
 look:Look e' l' s' a'
 inv:NInv B e' (uni m' f) w'
 bel:Below B w w'
 disj:Disj m' f
 defs:a'.defers=a.defers
 size:a'.tmps.size=a.tmps.size
theorem Lft.trans {B:Nat} {e e1 e2:Env} {f:Mu} {nx nx1 nx2:Nat} {w w1 w2:World} {l1 l2:Lc} {s1 s2:SS} {m1 m2:SM} {a a1 a2:Act} (h:Lft B e f nx w l1 s1 m1 nx1 a a1 w1 e1) (k:Lft B e1 f nx1 w1 l2 s2 m2 nx2 a1 a2 w2 e2) (h1:nx≤nx1) (h2:nx1≤nx2):Lft B e f nx w l2 s2 m2 nx2 a a2 w2 e2 :=
 ⟨h.ee.trans k.ee,fun j hj=>by rw [k.out j (by omega),h.out j (by omega)],k.look,k.inv,h.bel.trans k.bel,k.disj,k.defs.trans h.defs,k.size.trans h.size⟩
theorem Fr.left {e:Env} {a b c:Nat} (h:Fr e a c) (hb:b≤c):Fr e a b:=fun k h1 h2=>h k h1 (by omega)
theorem Fr.right {e e1:Env} {a b c:Nat} (h:Fr e a c) (ha:a≤b) (ho:∀ k,(k<a∨b≤k)→e1 k=e k):Fr e1 b c:=fun k h1 h2=>by rw [ho k (.inr h1)];exact h k (by omega) h2
theorem wantF_is {e:Env} {l:Lc} {s:SS} {a:Act} {ops:Array Oper} {o:Oper} {b:Bool} (hl:Look e l s a) (h:wantF ops.toList o.guard l s=some b):Region.wanted o (yielded ops a.tmps)=b:=by
 unfold Region.wanted
 cases hg:o.guard with
 | none=>rw [hg] at h;have h:some true=some b:=h;cases h;rfl
 | some jb =>
  obtain ⟨j,c⟩:=jb
  rw [hg] at h
  obtain ⟨o',h1,h2⟩:=Zc (show (orec (nth ops.toList j) none fun o'=>orec o'.dst none fun t=>orec (Lc.get l s t) none fun v=>v.boo (fun d=>some (beq2 d c)) (match v with
      | .v (.tuple _)=>some false
      | _=>none))=some b from h)
  clear h
  obtain ⟨t,h3,h4⟩:=Zc h2
  clear h2
  obtain ⟨v,h5,h6⟩:=Zc h4
  clear h4
  rw [nth_eq] at h1
  obtain ⟨k1,k2⟩:=hl t v h5
  have hy:(((ops[j]?).bind (·.dst)).bind (a.tmps[·]?))=some (a.tmps.getD t undef):=by
   have:ops[j]?=some o':=by rw [← Array.getElem?_toList];exact h1
   rw [this]
   simp [h3,Array.getD,k1]
  show (yielded ops a.tmps j == some c)=b
  unfold yielded
  rw [hy]
  cases v <;> first|(exfalso;simp [SV.boo] at h6;done)|skip
  case b x =>
   have h6:some (beq2 x c)=some b:=h6
   cases h6
   generalize a.tmps.getD t undef=u at k2
   cases k2
   rw [beq2_eq]
   cases x <;> cases c <;> simp
  case v x =>
   generalize hu:a.tmps.getD t undef=u at k2
   cases k2
   cases x <;> first|(exfalso;simp [SV.boo] at h6;done)|skip
   case tuple vs =>
    have h6:some false=some b:=h6
    cases h6
    simp
theorem opsF_dom:∀ (os:List Oper) (all:List Oper) (l:Lc) (s:SS) (m:SM) (nx:Nat) (l':Lc) (m':SM) (nx':Nat),opsF os P call all l s m nx=.ok l' m' nx'→∀ t,(Lc.get l' .e t).isSome→(Lc.get l .e t).isSome∨∃ o∈os,o.dst=some t
 | [],all,l,s,m,nx,l',m',nx',h,t,ht=>by
  have h:AL.ok l m nx=.ok l' m' nx':=h
  cases h
  exact .inl ht
 | o::os,all,l,s,m,nx,l',m',nx',h,t,ht=>by
  have key:∀ v,(Lc.get (setD l o.dst v) .e t).isSome→(Lc.get l .e t).isSome∨o.dst=some t:=by
   intro v hv
   cases hd:o.dst with
   | none=>rw [hd] at hv;exact .inl hv
   | some d =>
    rw [hd] at hv
    have hv:(Lc.get (.cons d v l) .e t).isSome:=hv
    rw [lc_cons] at hv
    by_cases q:d=t
    ·exact .inr (by rw [q])
    ·rw [if_neg q] at hv;exact .inl hv
  obtain ⟨d,op,ty,pos,af,g⟩:=o
  have h:Option.rec (AL.no [32]) (fun w=>bcd w (AR.rec (fun v m' nx'=>opsF os P call all (setD l d v) s m' nx') (fun e=>.no (len os::e)) (opF op P call l s m nx)) (opsF os P call all (setD l d (.v undef)) s m nx)) (wantF all g l s)=AL.ok l' m' nx':=h
  cases q1:wantF all g l s with
  | none=>rw [q1] at h;exact absurd h (by simp)
  | some b =>
   rw [q1] at h
   cases b
   ·have h:opsF os P call all (setD l d (.v undef)) s m nx=.ok l' m' nx':=h
    rcases opsF_dom os all _ s m nx l' m' nx' h t ht with k|⟨o',k1,k2⟩
    ·rcases key _ k with k|k
     ·exact .inl k
     ·exact .inr ⟨_,by simp,k⟩
    ·exact .inr ⟨o',by simp [k1],k2⟩
   ·have h:AR.rec (fun v m' nx'=>opsF os P call all (setD l d v) s m' nx') (fun e=>.no (len os::e)) (opF op P call l s m nx)=AL.ok l' m' nx':=h
    cases q2:opF op P call l s m nx with
    | no e=>rw [q2] at h;exact absurd h (by simp)
    | ok v m1 nx1 =>
     rw [q2] at h
     have h:opsF os P call all (setD l d v) s m1 nx1=.ok l' m' nx':=h
     rcases opsF_dom os all _ s m1 nx1 l' m' nx' h t ht with k|⟨o',k1,k2⟩
     ·rcases key _ k with k|k
      ·exact .inl k
      ·exact .inr ⟨_,by simp,k⟩
     ·exact .inr ⟨o',by simp [k1],k2⟩
theorem seq_s (hc:CallS P call) {ops:Array Oper} {s:SS}:∀ (os:List Oper) (k:Nat) (l:Lc) (m:SM) (nx:Nat) (l':Lc) (m':SM) (nx':Nat),ops.toList.drop k=os→opsF os P call ops.toList l s m nx=.ok l' m' nx' →
    nx≤nx'∧∀ (B:Nat) (e:Env) (f:Mu) (a:Act) (w:World),Glob e→Disj m f→Fr e nx nx'→NInv B e (uni m f) w→Look e l s a→(∀ o∈os,∀ d,o.dst=some d→d<a.tmps.size) →
     ∀ Q:Exit→Act→World→Prop,(∀ a' w' e',Lft B e f nx w l' s m' nx' a a' w' e'→Q .normal a' w')→wpOps P ops Q (List.range' k os.length) a w
 | [],k,l,m,nx,l',m',nx',_,h=>by
  have h:AL.ok l m nx=.ok l' m' nx':=h
  cases h
  exact ⟨Nat.le_refl _,fun B e f a w hg hd hfr hi hl _ Q hQ=>hQ a w e ⟨EE.refl e,fun _ _=>rfl,hl,hi,Below.refl _ _,hd,rfl,rfl⟩⟩
 | o::os,k,l,m,nx,l',m',nx',hos,h=>by
  have hdr:ops.toList.drop (k+1)=os:=by
   have:=congrArg (List.drop 1) hos
   rw [List.drop_drop] at this
   simpa using this
  have hget:ops[k]?=some o:=by
   rw [← Array.getElem?_toList]
   have:=congrArg (fun l:List Oper=>l[0]?) hos
   simpa using this
  obtain ⟨d,op,ty,pos,af,g⟩:=o
  have h:Option.rec (AL.no [32]) (fun w=>bcd w (AR.rec (fun v m' nx'=>opsF os P call ops.toList (setD l d v) s m' nx') (fun e=>.no (len os::e)) (opF op P call l s m nx)) (opsF os P call ops.toList (setD l d (.v undef)) s m nx)) (wantF ops.toList g l s)=AL.ok l' m' nx':=h
  cases q1:wantF ops.toList g l s with
  | none=>rw [q1] at h;exact absurd h (by simp)
  | some b =>
   rw [q1] at h
   cases b
   ·have h:opsF os P call ops.toList (setD l d (.v undef)) s m nx=.ok l' m' nx':=h
    obtain ⟨h1,h2⟩:=seq_s hc os (k+1) _ m nx l' m' nx' hdr h
    refine ⟨h1,fun B e f a w hg hd hfr hi hl hds Q hQ=>?_⟩
    have hw:=wantF_is (o:=⟨d,op,ty,pos,af,g⟩) hl q1
    rw [List.length_cons,List.range'_succ,wpOps]
    simp only [hget]
    rw [if_neg (by rw [hw];simp)]
    refine h2 B e f _ w hg hd hfr hi (Look.put (d:=d) hl (fun t ht=>hds ⟨d,op,ty,pos,af,g⟩ (by simp) t ht) (.v _)) (fun o ho t ht=>by rw [put_tmps];exact hds o (by simp [ho]) t ht) Q (fun a' w' e' hL=>hQ a' w' e' ⟨hL.ee,hL.out,hL.look,hL.inv,hL.bel,hL.disj,by rw [hL.defs,put_defers],by rw [hL.size,put_tmps]⟩)
   ·have h:AR.rec (fun v m' nx'=>opsF os P call ops.toList (setD l d v) s m' nx') (fun e=>.no (len os::e)) (opF op P call l s m nx)=AL.ok l' m' nx':=h
    cases q2:opF op P call l s m nx with
    | no e=>rw [q2] at h;exact absurd h (by simp)
    | ok v m1 nx1 =>
     rw [q2] at h
     have h:opsF os P call ops.toList (setD l d v) s m1 nx1=.ok l' m' nx':=h
     obtain ⟨h1,h2⟩:=seq_s hc os (k+1) _ m1 nx1 l' m' nx' hdr h
     obtain ⟨h3,h4⟩:=op_s (o:=⟨d,op,ty,pos,af,g⟩) hc q2
     refine ⟨Nat.le_trans h3 h1,fun B e f a w hg hd hfr hi hl hds Q hQ=>?_⟩
     have hw:=wantF_is (o:=⟨d,op,ty,pos,af,g⟩) hl q1
     rw [List.length_cons,List.range'_succ,wpOps]
     simp only [hget]
     rw [if_pos (by rw [hw])]
     refine .inl (h4 B e f a w hg hd (hfr.left h1) hi hl _ _ ?_)
     rintro u w1 ⟨e1,k1,k2,k3,k4,k5,k6⟩
     refine h2 B e1 f _ w1 (hg.mono k1) k6 (hfr.right h3 k2) k4 (Look.put (d:=d) (hl.mono k1) (fun t ht=>hds ⟨d,op,ty,pos,af,g⟩ (by simp) t ht) k3) (fun o ho t ht=>by rw [put_tmps];exact hds o (by simp [ho]) t ht) Q (fun a' w' e' hL=>hQ a' w' e' ?_)
     refine Lft.trans (a1:=a.put d u) (l1:=setD l d v) (s1:=s) (w1:=w1) (m1:=m1) ⟨k1,k2,Look.put (d:=d) (hl.mono k1) (fun t ht=>hds ⟨d,op,ty,pos,af,g⟩ (by simp) t ht) k3,k4,k5,k6,put_defers _ _ _,put_tmps _ _ _⟩ hL h3 h1
end
end NE
namespace NE
section
variable {P:Program} {call:CallF} {l l':Lc} {s s':SS}
theorem ev_congr {x:Operand} (h:∀ t,x=.tmp t→Lc.get l s t=Lc.get l' s' t):ev x l s=ev x l' s':=by
 cases x with
 | tmp t=>exact h t rfl
 | _=>rfl
theorem evs_congr:∀ (xs:List Operand),(∀ t,Operand.tmp t∈xs→Lc.get l s t=Lc.get l' s' t)→evs xs l s=evs xs l' s'
 | [],_=>rfl
 | x::xs,h=>by
  show (orec (ev x l s) none fun v=>orec (evs xs l s) none fun r=>some (v::r))=(orec (ev x l' s') none fun v=>orec (evs xs l' s') none fun r=>some (v::r))
  rw [evs_congr xs fun t ht=>h t (by simp [ht]),ev_congr fun t ht=>h t (by simp [ht])]
theorem optN_congr {d:Nat} {x:Option Operand} (h:∀ t,x=some (.tmp t)→Lc.get l s t=Lc.get l' s' t):optN d x l s=optN d x l' s':=by
 cases x with
 | none=>rfl
 | some x=>unfold optN;simp only [];rw [ev_congr fun t ht=>h t (by rw [ht])]
theorem bldL_congr {w:Nat}:∀ (ps:List (Nat × Operand)) (k:Nat),(∀ t,Operand.tmp t∈ps.map (·.2)→Lc.get l s t=Lc.get l' s' t)→bldL w ps l s k=bldL w ps l' s' k
 | [],_,_=>rfl
 | p::ps,k,h=>by
  show bcd (Nat.beq p.1 k) (orec (ev p.2 l s) none fun v=>bcd (Nat.beq (len (cells v)) w) (orec (bldL w ps l s (Nat.succ k)) none fun r=>some (cells v::r)) none) none=bcd (Nat.beq p.1 k) (orec (ev p.2 l' s') none fun v=>bcd (Nat.beq (len (cells v)) w) (orec (bldL w ps l' s' (Nat.succ k)) none fun r=>some (cells v::r)) none) none
  rw [bldL_congr ps _ fun t ht=>h t (by simp only [List.map_cons,List.mem_cons];exact .inr ht),ev_congr (x:=p.2) fun t ht=>h t (by simp [ht])]
theorem bldF_congr {fl:List (Nat × Nat)}:∀ (ps:List (Nat × Operand)) (cs:List SV),(∀ t,Operand.tmp t∈ps.map (·.2)→Lc.get l s t=Lc.get l' s' t)→bldF fl ps l s cs=bldF fl ps l' s' cs
 | [],_,_=>rfl
 | p::ps,cs,h=>by
  show (orec (nth fl p.1) none fun f=>orec (ev p.2 l s) none fun v=>bcd (bcd (Nat.blt 0 f.2) (Nat.beq (len (cells v)) f.2) false) (orec (over f.1 (cells v) cs) none (bldF fl ps l s)) none)=(orec (nth fl p.1) none fun f=>orec (ev p.2 l' s') none fun v=>bcd (bcd (Nat.blt 0 f.2) (Nat.beq (len (cells v)) f.2) false) (orec (over f.1 (cells v) cs) none (bldF fl ps l' s')) none)
  have:bldF fl ps l s=bldF fl ps l' s':=funext fun cs=>bldF_congr ps cs fun t ht=>h t (by simp only [List.map_cons,List.mem_cons];exact .inr ht)
  rw [this,ev_congr (x:=p.2) fun t ht=>h t (by simp [ht])]
theorem cutF_congr {t:TypeId} {lo hi mx:Option Operand} {m:SM} {x:SV} (h1:∀ d,optN d lo l s=optN d lo l' s') (h2:∀ d,optN d hi l s=optN d hi l' s') (h3:∀ d,optN d mx l s=optN d mx l' s'):cutF P t lo hi mx l s m x=cutF P t lo hi mx l' s' m x:=by
 unfold cutF
 simp only [h1,h2]
 split <;> first|rfl|skip
 rename_i n _
 generalize optN n hi l' s'=H
 generalize optN 0 lo l' s'=A
 cases H <;> cases A <;> cases mx <;> first|rfl|skip
 simp only [h3 0]
theorem opF_congr {m:SM} {nx:Nat} (o:Op) (h:∀ t,Operand.tmp t∈o.operands.toList→Lc.get l s t=Lc.get l' s' t):opF o P call l s m nx=opF o P call l' s' m nx:=by
 have k1:∀ x f,ev x l s=ev x l' s'→op1 x f l s m nx=op1 x f l' s' m nx:=fun x f q=>by unfold op1;rw [q]
 have k2:∀ x y f,ev x l s=ev x l' s'→ev y l s=ev y l' s'→op2 x y f l s m nx=op2 x y f l' s' m nx:=fun x y f q1 q2=>by unfold op2;rw [q1,q2]
 have km:∀ x,ev x l s=ev x l' s'→mvOp x P call l s m nx=mvOp x P call l' s' m nx:=fun x q=>by unfold mvOp;rw [q]
 have kx:∀ x,x∈o.operands.toList→ev x l s=ev x l' s':=fun x hx=>ev_congr fun t q=>h t (by rw [← q];exact hx)
 have ko:∀ x:Option Operand,(∀ y,x=some y→y∈o.operands.toList)→∀ d,optN d x l s=optN d x l' s':=fun x hx d=>optN_congr fun t q=>h t (hx _ q)
 cases o with
 | move x=>exact km x (kx x (by simp [Op.operands]))
 | assign x=>exact km x (kx x (by simp [Op.operands]))
 | pick c x y =>
  show (orec (ev c l s) (AR.no [27]) fun q=>q.boo (fun q=>bcd q (mvOp x P call l s m nx) (mvOp y P call l s m nx)) (.no [47]))=_
  rw [kx c (by simp [Op.operands]),km x (kx x (by simp [Op.operands])),km y (kx y (by simp [Op.operands]))]
  rfl
 | alloc t=>rfl
 | box t x =>
  show (orec (ev x l s) (AR.no [29]) fun z=>boxF z m nx)=_
  rw [kx x (by simp [Op.operands])];rfl
 | build t ps =>
  show pur (buiF P t ps.toList l s) m nx=pur (buiF P t ps.toList l' s') m nx
  have q:∀ fl cs,bldF fl ps.toList l s cs=bldF fl ps.toList l' s' cs:=fun fl cs=>bldF_congr ps.toList cs fun t ht=>h t (by simpa [Op.operands] using ht)
  unfold buiF;simp only [q]
 | buildSlice t n ps =>
  show bslF P t n ps.toList l s m nx=bslF P t n ps.toList l' s' m nx
  have q:∀ w,bldL w ps.toList l s 0=bldL w ps.toList l' s' 0:=fun w=>bldL_congr ps.toList 0 fun t ht=>h t (by simpa [Op.operands] using ht)
  unfold bslF;simp only [q]
 | insert t x k v =>
  show mupOp t x k v P call l s m nx=mupOp t x k v P call l' s' m nx
  unfold mupOp;rw [kx x (by simp [Op.operands]),kx k (by simp [Op.operands]),kx v (by simp [Op.operands])]
 | mapUpdate t x k v =>
  show mupOp t x k v P call l s m nx=mupOp t x k v P call l' s' m nx
  unfold mupOp;rw [kx x (by simp [Op.operands]),kx k (by simp [Op.operands]),kx v (by simp [Op.operands])]
 | load t x=>exact k1 x _ (kx x (by simp [Op.operands]))
 | store t x y =>
  show stOp t x y P call l s m nx=stOp t x y P call l' s' m nx
  unfold stOp;rw [kx x (by simp [Op.operands]),kx y (by simp [Op.operands])]
 | nilCheck x=>exact k1 x _ (kx x (by simp [Op.operands]))
 | binOp op t x y e=>exact k2 x y _ (kx x (by simp [Op.operands])) (kx y (by simp [Op.operands]))
 | unOp op t x=>exact k1 x _ (kx x (by simp [Op.operands]))
 | convert a b x=>exact k1 x _ (kx x (by simp [Op.operands]))
 | makeInterface t x=>exact k1 x _ (kx x (by simp [Op.operands]))
 | makeFunc f fs cs =>
  show pur (mkfOp f fs.toList cs.toList l s) m nx=pur (mkfOp f fs.toList cs.toList l' s') m nx
  unfold mkfOp
  rw [evs_congr fs.toList fun t ht=>h t (by simp [Op.operands] at ht ⊢;exact .inl ht),evs_congr cs.toList fun t ht=>h t (by simp [Op.operands] at ht ⊢;exact .inr ht)]
 | makeMap t r=>rfl
 | makeSlice t a b =>
  show (orec (ev a l s) (AR.no [30]) fun x=>orec (ev b l s) (.no [48]) fun y=>mksF P t m nx x y)=_
  rw [kx a (by simp [Op.operands]),kx b (by simp [Op.operands])];rfl
 | slice t x lo hi mx =>
  show (orec (ev x l s) (AR.no [63]) fun v=>v.ptr (fun k off=>cutA P t lo hi mx l s k off m nx) (pur (cutF P t lo hi mx l s m v) m nx))=(orec (ev x l' s') (.no [63]) fun v=>v.ptr (fun k off=>cutA P t lo hi mx l' s' k off m nx) (pur (cutF P t lo hi mx l' s' m v) m nx))
  have q1:=ko lo (by intro y q;subst q;simp [Op.operands])
  have q2:=ko hi (by intro y q;subst q;simp [Op.operands])
  have q3:=ko mx (by intro y q;subst q;simp [Op.operands])
  have q4:∀ v,cutF P t lo hi mx l s m v=cutF P t lo hi mx l' s' m v:=fun v=>cutF_congr q1 q2 q3
  have q5:∀ k off,cutA P t lo hi mx l s k off m nx=cutA P t lo hi mx l' s' k off m nx:=fun k off=>by unfold cutA;simp only [q1,q2]
  simp only [q4,q5]
  rw [kx x (by simp [Op.operands])]
 | fieldAddr t x f=>exact k1 x _ (kx x (by simp [Op.operands]))
 | field t x f=>exact k1 x _ (kx x (by simp [Op.operands]))
 | indexAddr t x i=>exact k2 x i _ (kx x (by simp [Op.operands])) (kx i (by simp [Op.operands]))
 | index t x i=>exact k2 x i _ (kx x (by simp [Op.operands])) (kx i (by simp [Op.operands]))
 | lookup t x i ok=>exact k2 x i _ (kx x (by simp [Op.operands])) (kx i (by simp [Op.operands]))
 | extract x i=>exact k1 x _ (kx x (by simp [Op.operands]))
 | typeAssert x xt t ok=>exact k1 x _ (kx x (by simp [Op.operands]))
 | call c =>
  obtain ⟨g,xas,ts⟩:=c
  have qa:evs xas.toList l s=evs xas.toList l' s':=evs_congr xas.toList fun t ht=>h t (by cases g <;> simp [Op.operands,Call.operands] <;> simp at ht <;> simp [ht])
  cases g with
  | value x =>
   show (orec (evs xas.toList l s) (AR.no [17]) fun vs=>orec (ev x l s) (.no [44]) fun f=>callV call f vs m nx)=_
   rw [qa,kx x (by simp [Op.operands,Call.operands])];rfl
  | invoke r k =>
   show (orec (evs xas.toList l s) (AR.no [17]) fun vs=>.no [19])=_
   rw [qa];rfl
  | builtin b =>
   show (orec (evs xas.toList l s) (AR.no [17]) fun vs=>biF P b ts.toList vs m nx)=_
   rw [qa];rfl
 | _=>rfl
theorem wantF_congr {ops:List Oper} {g:Option (Nat × Bool)} (h:∀ j c o t,g=some (j,c)→ops[j]?=some o→o.dst=some t→Lc.get l s t=Lc.get l' s' t):wantF ops g l s=wantF ops g l' s':=by
 cases g with
 | none=>rfl
 | some jb =>
  obtain ⟨j,c⟩:=jb
  show (orec (nth ops j) none fun o'=>orec o'.dst none fun t=>orec (Lc.get l s t) none fun v=>v.boo (fun d=>some (beq2 d c)) (match v with
      | .v (.tuple _)=>some false
      | _=>none))=(orec (nth ops j) none fun o'=>orec o'.dst none fun t=>orec (Lc.get l' s' t) none fun v=>v.boo (fun d=>some (beq2 d c)) (match v with
      | .v (.tuple _)=>some false
      | _=>none))
  rw [nth_eq]
  cases q:ops[j]? with
  | none=>rfl
  | some o =>
   rw [Zh,Zh]
   cases q2:o.dst with
   | none=>rfl
   | some t=>rw [Zh,Zh,h j c o t rfl q q2]
theorem rdOf_mem {o:Op} {x:Operand} (h:rdOf o=some x):x∈o.operands.toList:=by
 cases o <;> simp [rdOf] at h <;> first|(subst h;simp [Op.operands];done)|skip
 case call c =>
  obtain ⟨g,xas,ts⟩:=c
  split at h
  ·rename_i y q
   simp only [Option.some.injEq] at h
   subst h
   have q:y∈xas.toList:=by have q:xas.toList=[y]:=q;rw [q];simp
   have q':y∈xas:=by simpa using q
   cases g <;> simp [Op.operands,Call.operands] <;> first|exact q'|exact .inr q'
  ·simp at h
theorem rdM_congr {o:Op} {m:SM} (h:∀ t,Operand.tmp t∈o.operands.toList→Lc.get l s t=Lc.get l' s' t):rdM o l s m=rdM o l' s' m:=by
 unfold rdM
 cases q:rdOf o with
 | none=>rfl
 | some x=>rw [Zh,Zh,ev_congr fun t ht=>h t (by rw [← ht];exact rdOf_mem q)]
end
theorem veq_eq {x y:Value} (h:veq x y=true):x=y:=by
 unfold veq at h
 split at h <;> first|rfl|skip
 ·simp only [Bool.and_eq_true] at h
  have h1:=Nat.eq_of_beq_eq_true h.1
  have h2:=Nat.eq_of_beq_eq_true h.2
  rw [Array.eq_empty_of_size_eq_zero h1,Array.eq_empty_of_size_eq_zero h2]
 ·cases h
mutual
theorem eqb_eq:∀ (x y:SV),SV.eqb x y=true→x=y
 | .i k a,y,h=>by
  cases y <;> simp only [SV.eqb] at h <;> first|(cases h;done)|skip
  obtain ⟨h1,h2⟩:=Za h
  rw [(keq_iff _ _).1 h1,(ieq_iff _ _).1 h2]
 | .b a,y,h=>by
  cases y <;> simp only [SV.eqb] at h <;> first|(cases h;done)|skip
  rw [beq2_eq] at h;rw [eq_of_beq h]
 | .s a,y,h=>by
  cases y <;> simp only [SV.eqb] at h <;> first|(cases h;done)|skip
  rw [(leq_iff _ _).1 h]
 | .v a,y,h=>by
  cases y <;> simp only [SV.eqb] at h <;> first|(cases h;done)|skip
  rw [veq_eq h]
 | .agg a,y,h=>by
  cases y <;> simp only [SV.eqb] at h <;> first|(cases h;done)|skip
  rw [eqbs_eq _ _ h]
 | .tup a,y,h=>by
  cases y <;> simp only [SV.eqb] at h <;> first|(cases h;done)|skip
  rw [eqbs_eq _ _ h]
 | .p k a,y,h=>by
  cases y <;> simp only [SV.eqb] at h <;> first|(cases h;done)|skip
  obtain ⟨h1,h2⟩:=Za h
  rw [Nat.eq_of_beq_eq_true h1,Nat.eq_of_beq_eq_true h2]
 | .sl k a b,y,h=>by
  cases y <;> simp only [SV.eqb] at h <;> first|(cases h;done)|skip
  obtain ⟨h1,h2⟩:=Za h
  obtain ⟨h2,h3⟩:=Za h2
  rw [Nat.eq_of_beq_eq_true h1,Nat.eq_of_beq_eq_true h2,Nat.eq_of_beq_eq_true h3]
 | .s0,y,h=>by
  cases y <;> simp only [SV.eqb] at h <;> first|(cases h;done)|rfl
 | .mp k,y,h=>by
  cases y <;> simp only [SV.eqb] at h <;> first|(cases h;done)|skip
  rw [Nat.eq_of_beq_eq_true h]
 | .fn f a b,y,h=>by
  cases y <;> simp only [SV.eqb] at h <;> first|(cases h;done)|skip
  obtain ⟨h1,h2⟩:=Za h
  obtain ⟨h2,h3⟩:=Za h2
  rw [Nat.eq_of_beq_eq_true h1,eqbs_eq _ _ h2,eqbs_eq _ _ h3]
 | .ifc t a,y,h=>by
  cases y <;> simp only [SV.eqb] at h <;> first|(cases h;done)|skip
  obtain ⟨h1,h2⟩:=Za h
  rw [Nat.eq_of_beq_eq_true h1,eqb_eq _ _ h2]
 | .ub,y,h=>by
  cases y <;> simp only [SV.eqb] at h <;> cases h
theorem eqbs_eq:∀ (x y:List SV),SV.eqbs x y=true→x=y
 | [],[],_=>rfl
 | [],_::_,h=>by simp [SV.eqbs] at h
 | _::_,[],h=>by simp [SV.eqbs] at h
 | x::l,y::r,h=>by
  simp only [SV.eqbs] at h
  obtain ⟨h1,h2⟩:=Za h
  rw [eqb_eq _ _ h1,eqbs_eq _ _ h2]
end
section
variable {P:Program} {call:CallF} {l:Lc} {s:SS} {m m':SM} {nx nx':Nat} {v:SV}
theorem rd_keeps {o:Op} (hk:clsF o=1) (h:opF o P call l s m nx=.ok v m' nx):m'=m:=by
 cases o <;> first|(simp [clsF] at hk;done)|skip
 case load t x=>exact (op1_ok h).choose_spec.2.2.1
 case indexAddr t x i=>obtain ⟨_,_,_,_,_,q,_⟩:=op2_ok h;exact q
 case lookup t x i ok=>obtain ⟨_,_,_,_,_,q,_⟩:=op2_ok h;exact q
 case slice t x lo hi mx =>
  have h:(orec (ev x l s) (.no [63]) fun v=>v.ptr (fun k off=>cutA P t lo hi mx l s k off m nx) (pur (cutF P t lo hi mx l s m v) m nx))=.ok v m' nx:=h
  obtain ⟨y,_,h2⟩:=Zd h
  rcases ptr_or (v:=y) (f:=fun k off=>cutA P t lo hi mx l s k off m nx) (d:=pur (cutF P t lo hi mx l s m y) m nx) with ⟨k,off,rfl,q⟩|⟨_,q⟩
  ·rw [q] at h2
   exfalso
   unfold cutA at h2
   obtain ⟨p,_,h2⟩:=Zd h2
   obtain ⟨b,_,h2⟩:=Zd h2
   cases b with
   | mp _=>exact absurd h2 (by simp [SB.cl])
   | c w es c live anc =>
    have h2:(orec (size P p.2) (.no [62]) fun z=>orec (optN p.1 hi l s) (.no [97]) fun h=>orec (optN 0 lo l s) (.no [98]) fun a=>orec (es.get 0) (.no [99]) fun cs =>
     bcd (bcd (Nat.beq z 1) (bcd (Nat.ble h p.1) (bcd (Nat.ble a h) (bcd (Nat.beq w p.1) (bcd (Nat.beq c 1) (bcd live (bcd mx.isNone (Nat.beq off 0) false) false) false) false) false) false) false)
      (.ok (.sl nx a (Nat.sub h a)) ((m.put k (.c w es c false anc)).put nx (.c 1 (putsF (cs.map fun c=>[c]) .e 0) p.1 true (k::anc))) (Nat.succ nx)) (.no [60]))=AR.ok v m' nx:=h2
    obtain ⟨z,_,h2⟩:=Zd h2
    obtain ⟨hh,_,h2⟩:=Zd h2
    obtain ⟨aa,_,h2⟩:=Zd h2
    obtain ⟨cs,_,h2⟩:=Zd h2
    generalize (bcd (Nat.beq z 1) (bcd (Nat.ble hh p.1) (bcd (Nat.ble aa hh) (bcd (Nat.beq w p.1) (bcd (Nat.beq c 1) (bcd live (bcd mx.isNone (Nat.beq off 0) false) false) false) false) false) false) false)=bb at h2
    cases bb
    ·exact absurd (show AR.no [60]=AR.ok v m' nx from h2) (by simp)
    ·have h2:AR.ok _ _ (Nat.succ nx)=AR.ok v m' nx:=h2
     simp only [AR.ok.injEq] at h2
     omega
  ·rw [q] at h2
   exact (pur_ok h2).2.1
 case call c =>
  obtain ⟨g,xas,ts⟩:=c
  cases g with
  | value x=>simp [clsF] at hk
  | invoke r k=>simp [clsF] at hk
  | builtin b =>
   have h:(orec (evs xas.toList l s) (.no [17]) fun vs=>biF P b ts.toList vs m nx)=.ok v m' nx:=h
   obtain ⟨vs,_,h2⟩:=Zd h
   cases b <;> simp [clsF] at hk
   all_goals
    unfold biF at h2
    split at h2 <;> first|(obtain ⟨n,_,h3⟩:=Zd h2;cases h3;rfl)|exact (pur_ok h2).2.1|(exfalso;simp_all;done)|skip
end
end NE
namespace NE
structure Rec where
 i:Nat
 o:Oper
 an:Nat
 l:Lc
 m:SM
 nx:Nat
 w:Bool
 v:SV
 m':SM
 nx':Nat
noncomputable def lA (A:List Rec):Lc:=A.foldl (fun l r=>setD l r.o.dst r.v) .nil
noncomputable def mA (m0:SM) (A:List Rec):SM:=A.foldl (fun _ r=>r.m') m0
noncomputable def nA (n0:Nat) (A:List Rec):Nat:=A.foldl (fun _ r=>r.nx') n0
theorem lA_snoc (A:List Rec) (r:Rec):lA (A++[r])=setD (lA A) r.o.dst r.v:=by simp [lA]
theorem mA_snoc (m0:SM) (A:List Rec) (r:Rec):mA m0 (A++[r])=r.m':=by simp [mA]
theorem nA_snoc (n0:Nat) (A:List Rec) (r:Rec):nA n0 (A++[r])=r.nx':=by simp [nA]
structure Stp (P:Program) (call:CallF) (s:SS) (all:List Oper) (r:Rec):Prop where
 want:wantF all r.o.guard r.l s=some r.w
 no:r.w=false→r.v=.v undef∧r.m'=r.m∧r.nx'=r.nx
 c0:r.w=true→clsF r.o.op=0→r.m'=r.m∧r.nx'=r.nx∧∃ m1,opF r.o.op P call r.l s .e r.nx=.ok r.v m1 r.nx
 c1:r.w=true→clsF r.o.op=1→r.m'=r.m∧r.nx'=r.nx∧∃ m1,opF r.o.op P call r.l s (rdM r.o.op r.l s r.m) r.nx=.ok r.v m1 r.nx
 c2:r.w=true→clsF r.o.op=2→opF r.o.op P call r.l s r.m r.nx=.ok r.v r.m' r.nx'
 c3:r.w=true→3≤clsF r.o.op→r.nx'=r.nx+1∧∃ m1 b,opF r.o.op P call r.l s .e r.nx=.ok r.v m1 (r.nx+1)∧m1.get r.nx=some b∧r.m'=r.m.put r.nx b
def Rpl (P:Program) (call:CallF) (s:SS) (x t:Rec):Prop:=∃ m1,opF x.o.op P call x.l s (rdM x.o.op x.l s t.m') t.nx'=.ok x.v m1 t.nx'
structure Fact (P:Program) (call:CallF) (s:SS) (all:List Oper) (an:List Nat) (m0:SM) (n0:Nat) (A:List Rec) (r:Rec):Prop where
 o:all[r.i]?=some r.o
 hn:an[r.i]?=some r.an
 new:∀ x∈A,x.i≠r.i
 binds:∀ j∈bindsOf r.o,∃ x∈A,x.i=j
 flow:∀ t∈seesOf all r.o,∀ (j:Nat) (p:Oper),all[j]?=some p→p.dst=some t→j=r.i∨r.an.testBit j=true∨∃ aj,an[j]?=some aj∧aj.testBit r.i=true
 l:r.l=lA A
 m:r.m=mA m0 A
 nx:r.nx=nA n0 A
 stp:Stp P call s all r
 rd:clsF r.o.op=1→∀ x∈A,clsF x.o.op=2→r.an.testBit x.i=true
 tu:clsF r.o.op=2→∀ x∈A,2≤clsF x.o.op→r.an.testBit x.i=true
 rp:clsF r.o.op=2→r.w=true→∀ x∈A,x.w=true→clsF x.o.op=1→r.an.testBit x.i=false→Rpl P call s x r
def LgHas:Lg→Nat→Op→Lc→SV→Prop
 | .nil,_,_,_,_=>False
 | .cons i o l v g,i',o',l',v'=>(i=i'∧o=o'∧l=l'∧v=v')∨LgHas g i' o' l' v'
section
variable {P:Program} {call:CallF} {s:SS}
theorem rp_has {an:Nat} {m:SM} {nx:Nat}:∀ (g:Lg),rpF P call an s m nx g=true→∀ i o l v,LgHas g i o l v→an.testBit i=false→∃ m1,opF o P call l s (rdM o l s m) nx=.ok v m1 nx
 | .nil,_,_,_,_,_,h,_=>h.elim
 | .cons i o l v g,h,i',o',l',v',hh,hb=>by
  have h:bcd (Nat.testBit an i) (rpF P call an s m nx g) (AR.rec (fun v' _ n'=>bcd (Nat.beq nx n') (bcd (SV.eqb v v') (rpF P call an s m nx g) false) false) (fun _=>false) (opF o P call l s (rdM o l s m) nx))=true:=h
  rcases hh with ⟨rfl,rfl,rfl,rfl⟩|hh
  ·rw [hb] at h
   have h:(AR.rec (fun v' _ n'=>bcd (Nat.beq nx n') (bcd (SV.eqb v v') (rpF P call an s m nx g) false) false) (fun _=>false) (opF o P call l s (rdM o l s m) nx):Bool)=true:=h
   cases q:opF o P call l s (rdM o l s m) nx with
   | no e=>rw [q] at h;cases h
   | ok v2 m1 n1 =>
    rw [q] at h
    obtain ⟨h1,h2⟩:=Za h
    obtain ⟨h2,_⟩:=Za h2
    rw [← Nat.eq_of_beq_eq_true h1,← eqb_eq _ _ h2]
    exact ⟨m1,rfl⟩
  ·refine rp_has g ?_ i' o' l' v' hh hb
   cases q:Nat.testBit an i
   ·rw [q] at h
    have h:(AR.rec (fun v' _ n'=>bcd (Nat.beq nx n') (bcd (SV.eqb v v') (rpF P call an s m nx g) false) false) (fun _=>false) (opF o P call l s (rdM o l s m) nx):Bool)=true:=h
    cases q2:opF o P call l s (rdM o l s m) nx with
    | no e=>rw [q2] at h;cases h
    | ok v2 m1 n1 =>
     rw [q2] at h
     obtain ⟨_,h2⟩:=Za h
     exact (Za h2).2
   ·rw [q] at h;exact h
theorem alrec_ok {α:Type} {x:Option α} {f:α→AL} {c:List Nat} {l:Lc} {m:SM} {nx:Nat} (h:orec x (.no c) f=.ok l m nx):∃ y,x=some y∧f y=.ok l m nx:=by
 cases x with
 | none=>exact absurd h (by simp [orec_none])
 | some y=>exact ⟨y,rfl,h⟩
theorem albcd_ok {b:Bool} {y:AL} {c:List Nat} {l:Lc} {m:SM} {nx:Nat} (h:bcd b y (.no c)=.ok l m nx):b=true∧y=.ok l m nx:=by
 cases b
 ·exact absurd (show AL.no c=.ok l m nx from h) (by simp)
 ·exact ⟨rfl,h⟩
theorem byC_is {o:Op} {an i:Nat} {g:Lg} {l:Lc} {m:SM} {nx:Nat} {k:SV→Lg→SM→Nat→AL} {L:Lc} {M:SM} {N:Nat} (h:byC o an i P call g l s m nx k=.ok L M N) :
    ∃ v g' m' nx',k v g' m' nx'=.ok L M N∧(∀ j p lo v',LgHas g j p lo v'→LgHas g' j p lo v') ∧
     (clsF o=0→m'=m∧nx'=nx∧∃ m1,opF o P call l s .e nx=.ok v m1 nx) ∧
     (clsF o=1→m'=m∧nx'=nx∧LgHas g' i o l v∧∃ m1,opF o P call l s (rdM o l s m) nx=.ok v m1 nx) ∧
     (clsF o=2→opF o P call l s m nx=.ok v m' nx'∧rpF P call an s m' nx' g=true) ∧
     (3≤clsF o→nx'=nx+1∧∃ m1 b,opF o P call l s .e nx=.ok v m1 (nx+1)∧m1.get nx=some b∧m'=m.put nx b):=by
 unfold byC at h
 generalize clsF o=c at h ⊢
 match c with
 | 0 =>
  have h:(AR.rec (fun v _ nx'=>bcd (Nat.beq nx nx') (k v g m nx) (.no [70])) (fun e=>.no e) (opF o P call l s .e nx):AL)=.ok L M N:=h
  cases q:opF o P call l s .e nx with
  | no e=>rw [q] at h;exact absurd h (by simp)
  | ok v m1 n1 =>
   rw [q] at h
   obtain ⟨h1,h2⟩:=albcd_ok h
   have:=Nat.eq_of_beq_eq_true h1
   subst this
   exact ⟨v,g,m,nx,h2,fun _ _ _ _ h=>h,fun _=>⟨rfl,rfl,m1,rfl⟩,fun h=>by omega,fun h=>by omega,fun h=>by omega⟩
 | 1 =>
  have h:(AR.rec (fun v _ nx'=>bcd (Nat.beq nx nx') (k v (.cons i o l v g) m nx) (.no [70])) (fun e=>.no e) (opF o P call l s (rdM o l s m) nx):AL)=.ok L M N:=h
  cases q:opF o P call l s (rdM o l s m) nx with
  | no e=>rw [q] at h;exact absurd h (by simp)
  | ok v m1 n1 =>
   rw [q] at h
   obtain ⟨h1,h2⟩:=albcd_ok h
   have:=Nat.eq_of_beq_eq_true h1
   subst this
   exact ⟨v,_,m,nx,h2,fun _ _ _ _ h=>.inr h,fun h=>by omega,fun _=>⟨rfl,rfl,.inl ⟨rfl,rfl,rfl,rfl⟩,m1,rfl⟩,fun h=>by omega,fun h=>by omega⟩
 | 2 =>
  have h:(AR.rec (fun v m' nx'=>bcd (rpF P call an s m' nx' g) (k v g m' nx') (.no [72])) (fun e=>.no e) (opF o P call l s m nx):AL)=.ok L M N:=h
  cases q:opF o P call l s m nx with
  | no e=>rw [q] at h;exact absurd h (by simp)
  | ok v m1 n1 =>
   rw [q] at h
   obtain ⟨h1,h2⟩:=albcd_ok h
   exact ⟨v,g,m1,n1,h2,fun _ _ _ _ h=>h,fun h=>by omega,fun h=>by omega,fun _=>⟨rfl,h1⟩,fun h=>by omega⟩
 | c+3 =>
  have h:(AR.rec (fun v m' nx'=>bcd (Nat.beq nx' (Nat.succ nx)) (orec (m'.get nx) (.no [74]) fun b=>k v g (m.put nx b) nx') (.no [73])) (fun e=>.no e) (opF o P call l s .e nx):AL)=.ok L M N:=h
  cases q:opF o P call l s .e nx with
  | no e=>rw [q] at h;exact absurd h (by simp)
  | ok v m1 n1 =>
   rw [q] at h
   obtain ⟨h1,h2⟩:=albcd_ok h
   have:=Nat.eq_of_beq_eq_true h1
   subst this
   obtain ⟨b,h3,h4⟩:=alrec_ok h2
   exact ⟨v,g,_,_,h4,fun _ _ _ _ h=>h,fun h=>by omega,fun h=>by omega,fun h=>by omega,fun _=>⟨rfl,m1,b,rfl,h3,rfl⟩⟩
theorem sub_is {a b:Nat} (h:sub a b=true) {j:Nat} (hj:a.testBit j=true):b.testBit j=true:=by
 have h:a &&& b=a:=Nat.eq_of_beq_eq_true h
 rw [← h,Nat.testBit_and] at hj
 exact (Bool.and_eq_true _ _ ▸ hj).2
theorem bit_or {a i j:Nat}:(Nat.lor a (Nat.shiftLeft 1 i)).testBit j=(a.testBit j || decide (j=i)):=by
 show (a |||(1 <<< i)).testBit j=_
 rw [Nat.testBit_or,Nat.one_shiftLeft,Nat.testBit_two_pow]
 simp [eq_comm]
theorem maskL_has:∀ (l:List Nat) (j:Nat),j∈l→(maskL l).testBit j=true
 | [],_,h=>by simp at h
 | i::l,j,h=>by
  show (Nat.lor (Nat.shiftLeft 1 i) (maskL l)).testBit j=true
  show ((1 <<< i) ||| maskL l).testBit j=true
  rw [Nat.testBit_or,Nat.one_shiftLeft,Nat.testBit_two_pow]
  rcases List.mem_cons.1 h with rfl|h
  ·simp
  ·rw [maskL_has l j h];simp
theorem flow_is {all:List Oper} {an:List Nat} {i ai:Nat} {ts:List Nat} (h:flowF all an i ai ts=true):∀ t∈ts,∀ (j:Nat) (p:Oper),all[j]?=some p→p.dst=some t→j=i∨ai.testBit j=true∨∃ aj,an[j]?=some aj∧aj.testBit i=true:=by
 have key:∀ (t:Nat) (os:List Oper) (k:Nat),(List.rec (motive:=fun _=>Nat→Bool) (fun _=>true) (fun o _ r j=>bcd (orec o.dst true fun d=>bcd (Nat.beq d t) (bcd (Nat.beq i j) true (bcd (Nat.testBit ai j) true (orec (nth an j) false fun aj=>Nat.testBit aj i))) true) (r (Nat.succ j)) false) os k)=true →
     ∀ (j:Nat) (p:Oper),os[j]?=some p→p.dst=some t→k+j=i∨ai.testBit (k+j)=true∨∃ aj,an[k+j]?=some aj∧aj.testBit i=true:=by
  intro t os
  induction os with
  | nil=>intro k _ j p hp;simp at hp
  | cons o os ih =>
   intro k h j p hp hd
   obtain ⟨h1,h2⟩:=Za h
   cases j with
   | succ j =>
    have:=ih (Nat.succ k) h2 j p (by simpa using hp) hd
    rw [show k+(j+1)=Nat.succ k+j by omega]
    exact this
   | zero =>
    simp at hp
    subst hp
    rw [hd] at h1
    have h1:bcd (Nat.beq t t) (bcd (Nat.beq i k) true (bcd (Nat.testBit ai k) true (orec (nth an k) false fun aj=>Nat.testBit aj i))) true=true:=h1
    rw [show Nat.beq t t=true from Nat.beq_refl t] at h1
    have h1:bcd (Nat.beq i k) true (bcd (Nat.testBit ai k) true (orec (nth an k) false fun aj=>Nat.testBit aj i))=true:=h1
    rw [Nat.add_zero]
    cases q:Nat.beq i k
    ·rw [q] at h1
     have h1:bcd (Nat.testBit ai k) true (orec (nth an k) false fun aj=>Nat.testBit aj i)=true:=h1
     cases q2:Nat.testBit ai k
     ·rw [q2] at h1
      have h1:(orec (nth an k) false fun aj=>Nat.testBit aj i)=true:=h1
      rw [nth_eq] at h1
      cases q3:an[k]? with
      | none=>rw [q3] at h1;cases h1
      | some aj=>rw [q3] at h1;exact .inr (.inr ⟨aj,rfl,h1⟩)
     ·exact .inr (.inl rfl)
    ·exact .inl (Nat.eq_of_beq_eq_true q).symm
 intro t ht
 induction ts with
 | nil=>simp at ht
 | cons t0 ts ih =>
  obtain ⟨h1,h2⟩:=Za (show bcd (List.rec (motive:=fun _=>Nat→Bool) (fun _=>true) (fun o _ r j=>bcd (orec o.dst true fun d=>bcd (Nat.beq d t0) (bcd (Nat.beq i j) true (bcd (Nat.testBit ai j) true (orec (nth an j) false fun aj=>Nat.testBit aj i))) true) (r (Nat.succ j)) false) all 0) (flowF all an i ai ts) false=true from h)
  rcases List.mem_cons.1 ht with rfl|ht
  ·intro j p hp hd
   have:=key t all 0 h1 j p hp hd
   rw [Nat.zero_add] at this
   exact this
  ·exact ih h2 ht
theorem brec_true {b x:Bool} (h:bcd b x false=true):b=true∧x=true:=Za h
theorem orec_true {α:Type} {x:Option α} {f:α→Bool} (h:orec x false f=true):∃ y,x=some y∧f y=true:=by
 cases x with
 | none=>cases h
 | some y=>exact ⟨y,rfl,h⟩
theorem dr_recs {all:List Oper} {an:List Nat} {m0:SM} {n0:Nat}:∀ (ord:List Nat) (A:List Rec) (g:Lg) (dn tm am:Nat) (L:Lc) (M:SM) (N:Nat),
    drF ord P call all an g (lA A) s (mA m0 A) (nA n0 A)=.ok L M N→ordOk all an ord dn tm am=true→(∀ j,dn.testBit j=true↔∃ x∈A,x.i=j)→(∀ x∈A,clsF x.o.op=2→tm.testBit x.i=true)→(∀ x∈A,3≤clsF x.o.op→am.testBit x.i=true) →
    (∀ x∈A,x.w=true→clsF x.o.op=1→LgHas g x.i x.o.op x.l x.v) →
    ∃ B:List Rec,(∀ X r Y,B=X++r::Y→Fact P call s all an m0 n0 (A++X) r)∧L=lA (A++B)∧M=mA m0 (A++B)∧N=nA n0 (A++B)∧∀ j,j<all.length→∃ x∈A++B,x.i=j
 | [],A,g,dn,tm,am,L,M,N,h,ho,hdn,_,_,_=>by
  have h:AL.ok (lA A) (mA m0 A) (nA n0 A)=.ok L M N:=h
  cases h
  refine ⟨[],fun X r Y q=>by simp at q,by simp,by simp,by simp,fun j hj=>?_⟩
  have ho:Nat.beq dn (Nat.sub (Nat.shiftLeft 1 (len all)) 1)=true:=ho
  have ho:=Nat.eq_of_beq_eq_true ho
  rw [List.append_nil]
  refine (hdn j).1 ?_
  rw [ho,Zi]
  show ((1 <<< all.length) - 1).testBit j=true
  rw [Nat.one_shiftLeft,Nat.testBit_two_pow_sub_one]
  simpa using hj
 | i::ord,A,g,dn,tm,am,L,M,N,h,ho,hdn,htm,ham,hg=>by
  obtain ⟨o,q1,h⟩:=alrec_ok (x:=nth all i) (c:=[75]) (f:=fun o=>orec (nth an i) (.no [76]) fun ai =>
   Oper.rec (motive:=fun _=>AL) (fun d op _ _ _ gd=>orec (wantF all gd (lA A) s) (.no [77]) fun w=>bcd w (byC op ai i P call g (lA A) s (mA m0 A) (nA n0 A) (fun v g' m' nx'=>drF ord P call all an g' (setD (lA A) d v) s m' nx')) (drF ord P call all an g (setD (lA A) d (.v undef)) s (mA m0 A) (nA n0 A))) o) h
  obtain ⟨ai,q2,h⟩:=alrec_ok h
  obtain ⟨o',q1',ho⟩:=orec_true (x:=nth all i) ho
  rw [q1] at q1'
  cases q1'
  obtain ⟨ai',q2',ho⟩:=orec_true ho
  rw [q2] at q2'
  cases q2'
  obtain ⟨ho1,ho⟩:=brec_true ho
  obtain ⟨ho2,ho⟩:=brec_true ho
  obtain ⟨ho3,ho⟩:=brec_true ho
  have hnew:∀ x∈A,x.i≠i:=by
   intro x hx e
   have:=(hdn i).2 ⟨x,hx,e⟩
   rw [this] at ho1
   cases ho1
  have hbinds:∀ j∈bindsOf o,∃ x∈A,x.i=j:=fun j hj=>(hdn j).1 (sub_is ho2 (maskL_has _ _ hj))
  have hflow:=flow_is ho3
  rw [nth_eq] at q1 q2
  -- the rest of the check
  have hrest:(clsF o.op=1→∀ x∈A,clsF x.o.op=2→ai.testBit x.i=true)∧(clsF o.op=2→∀ x∈A,2≤clsF x.o.op→ai.testBit x.i=true) ∧
      ∃ tm' am',ordOk all an ord (Nat.lor dn (Nat.shiftLeft 1 i)) tm' am'=true∧(∀ j,tm.testBit j=true→tm'.testBit j=true)∧(∀ j,am.testBit j=true→am'.testBit j=true)∧(clsF o.op=2→tm'.testBit i=true)∧(3≤clsF o.op→am'.testBit i=true):=by
   revert ho
   generalize clsF o.op=c
   match c with
   | 0 =>
    intro ho
    exact ⟨fun h=>by omega,fun h=>by omega,tm,am,ho,fun _ h=>h,fun _ h=>h,fun h=>by omega,fun h=>by omega⟩
   | 1 =>
    intro ho
    obtain ⟨k1,k2⟩:=brec_true ho
    exact ⟨fun _ x hx hc=>sub_is k1 (htm x hx hc),fun h=>by omega,tm,am,k2,fun _ h=>h,fun _ h=>h,fun h=>by omega,fun h=>by omega⟩
   | 2 =>
    intro ho
    obtain ⟨k1,k2⟩:=brec_true ho
    obtain ⟨k2,k3⟩:=brec_true k2
    refine ⟨fun h=>by omega,fun _ x hx hc=>?_,_,am,k3,fun j h=>by rw [bit_or,h];rfl,fun _ h=>h,fun _=>by rw [bit_or];simp,fun h=>by omega⟩
    by_cases e:clsF x.o.op=2
    ·exact sub_is k1 (htm x hx e)
    ·exact sub_is k2 (ham x hx (by omega))
   | c+3 =>
    intro ho
    exact ⟨fun h=>by omega,fun h=>by omega,tm,_,ho,fun _ h=>h,fun j h=>by rw [bit_or,h];rfl,fun h=>by omega,fun _=>by rw [bit_or];simp⟩
  obtain ⟨hrd,htu,tm',am',hok',ht1,ha1,ht2,ha2⟩:=hrest
  obtain ⟨d,op,ty,pos,af,gd⟩:=o
  obtain ⟨w,q3,h⟩:=alrec_ok (x:=wantF all gd (lA A) s) h
  -- the record
  have key:∀ (v:SV) (g':Lg) (m':SM) (nx':Nat),drF ord P call all an g' (setD (lA A) d v) s m' nx'=.ok L M N→Stp P call s all ⟨i,⟨d,op,ty,pos,af,gd⟩,ai,lA A,mA m0 A,nA n0 A,w,v,m',nx'⟩ →
      (∀ j p lo v',LgHas g j p lo v'→LgHas g' j p lo v')→(w=true→clsF op=1→LgHas g' i op (lA A) v)→(clsF op=2→w=true→rpF P call ai s m' nx' g=true) →
      ∃ B:List Rec,(∀ X r Y,B=X++r::Y→Fact P call s all an m0 n0 (A++X) r)∧L=lA (A++B)∧M=mA m0 (A++B)∧N=nA n0 (A++B)∧∀ j,j<all.length→∃ x∈A++B,x.i=j:=by
   intro v g' m' nx' hr hs hgg hgi hrp
   have hl:=lA_snoc A ⟨i,⟨d,op,ty,pos,af,gd⟩,ai,lA A,mA m0 A,nA n0 A,w,v,m',nx'⟩
   have hm:=mA_snoc m0 A ⟨i,⟨d,op,ty,pos,af,gd⟩,ai,lA A,mA m0 A,nA n0 A,w,v,m',nx'⟩
   have hn:=nA_snoc n0 A ⟨i,⟨d,op,ty,pos,af,gd⟩,ai,lA A,mA m0 A,nA n0 A,w,v,m',nx'⟩
   generalize hR:(⟨i,⟨d,op,ty,pos,af,gd⟩,ai,lA A,mA m0 A,nA n0 A,w,v,m',nx'⟩:Rec)=R at hl hm hn hs
   have e1:R.i=i:=by rw [← hR]
   have e2:R.o=⟨d,op,ty,pos,af,gd⟩:=by rw [← hR]
   have e3:R.v=v:=by rw [← hR]
   have e4:R.m'=m':=by rw [← hR]
   have e5:R.nx'=nx':=by rw [← hR]
   have e6:R.an=ai:=by rw [← hR]
   have e7:R.w=w:=by rw [← hR]
   have e8:R.l=lA A:=by rw [← hR]
   rw [e2,e3] at hl
   rw [e4] at hm
   rw [e5] at hn
   rw [← hm,← hn] at hr
   rw [show setD (lA A) d v=lA (A++[R]) from hl.symm] at hr
   obtain ⟨B,k1,k2,k3,k4,k5⟩:=dr_recs ord (A++[R]) g' _ tm' am' L M N hr hok' (fun j=>by
    rw [bit_or,Bool.or_eq_true,hdn j]
    constructor
    ·rintro (⟨x,hx,e⟩|e)
     ·exact ⟨x,by simp [hx],e⟩
     ·exact ⟨R,by simp,by simp at e;rw [e1,e]⟩
    ·rintro ⟨x,hx,e⟩
     rcases List.mem_append.1 hx with hx|hx
     ·exact .inl ⟨x,hx,e⟩
     ·simp at hx;subst hx;exact .inr (by simp [← e,e1])) (fun x hx hc=>by
    rcases List.mem_append.1 hx with hx|hx
    ·exact ht1 _ (htm x hx hc)
    ·simp at hx;subst hx;rw [e1];exact ht2 (by rw [e2] at hc;exact hc)) (fun x hx hc=>by
    rcases List.mem_append.1 hx with hx|hx
    ·exact ha1 _ (ham x hx hc)
    ·simp at hx;subst hx;rw [e1];exact ha2 (by rw [e2] at hc;exact hc)) (fun x hx hw hc=>by
    rcases List.mem_append.1 hx with hx|hx
    ·exact hgg _ _ _ _ (hg x hx hw hc)
    ·simp at hx;subst hx;rw [e1,e2,e8,e3];exact hgi (e7 ▸ hw) (by rw [e2] at hc;exact hc))
   refine ⟨R::B,fun X r Y q=>?_,by simpa using k2,by simpa using k3,by simpa using k4,by simpa using k5⟩
   cases X with
   | cons x X =>
    simp at q
    obtain ⟨rfl,q⟩:=q
    have:=k1 X r Y q
    simpa using this
   | nil =>
    simp at q
    obtain ⟨rfl,_⟩:=q
    rw [List.append_nil]
    refine ⟨by rw [e1,e2];exact q1,by rw [e1,e6];exact q2,by rw [e1];exact hnew,by rw [e2];exact hbinds,by rw [e1,e2,e6];exact hflow,e8,by rw [← hR],by rw [← hR],hs,by rw [e2,e6];exact hrd,by rw [e2,e6];exact htu,fun hc hw x hx hxw hxc hb=>?_⟩
    rw [e2] at hc
    rw [e7] at hw
    rw [e6] at hb
    have:=rp_has g (hrp hc hw) _ _ _ _ (hg x hx hxw hxc) hb
    unfold Rpl
    rw [e4,e5]
    exact this
  cases w with
  | false =>
   refine key (.v undef) g (mA m0 A) (nA n0 A) h ⟨q3,fun _=>⟨rfl,rfl,rfl⟩,fun h=>?_,fun h=>?_,fun h=>?_,fun h=>?_⟩ (fun _ _ _ _ h=>h) (fun h=>?_) (fun _ h=>?_) <;> cases h
  | true =>
   have h:byC op ai i P call g (lA A) s (mA m0 A) (nA n0 A) (fun v g' m' nx'=>drF ord P call all an g' (setD (lA A) d v) s m' nx')=.ok L M N:=h
   obtain ⟨v,g',m',nx',k1,k2,k3,k4,k5,k6⟩:=byC_is h
   refine key v g' m' nx' k1 ⟨q3,fun h=>?_,fun _ hc=>k3 hc,fun _ hc=>⟨(k4 hc).1,(k4 hc).2.1,(k4 hc).2.2.2⟩,fun _ hc=>(k5 hc).1,fun _ hc=>k6 hc⟩ k2 (fun _ hc=>(k4 hc).2.2.1) (fun hc _=>(k5 hc).2)
   cases h
end
end NE
namespace NE
theorem anc_is {j:Nat}:∀ (os:List Oper) (acc:List Nat),(∀ k,k<acc.length→(ancF os acc)[k]?=acc[k]?)∧∀ i ai,(ancF os acc)[acc.length+i]?=some ai→ai.testBit j=true→∃ o,os[i]?=some o∧∃ b∈bindsOf o,j=b∨∃ ab,(ancF os acc)[b]?=some ab∧ab.testBit j=true
 | [],acc=>⟨fun k _=>rfl,fun i ai h=>by
     have h:acc[acc.length+i]?=some ai:=h
     rw [List.getElem?_eq_none (by omega)] at h
     cases h⟩
 | o::os,acc=>by
  have mk:∀ l:List Nat,((List.rec 0 (fun j _ r=>Nat.lor (Nat.lor (Nat.shiftLeft 1 j) (orec (nth acc j) 0 fun a=>a)) r) l:Nat)).testBit j=true→∃ b∈l,j=b∨∃ ab,acc[b]?=some ab∧ab.testBit j=true:=by
   intro l
   induction l with
   | nil=>intro h;simp at h
   | cons b l ih =>
    intro h
    have h:(((1 <<< b) |||(orec (nth acc b) 0 fun a=>a)) |||(List.rec 0 (fun j _ r=>Nat.lor (Nat.lor (Nat.shiftLeft 1 j) (orec (nth acc j) 0 fun a=>a)) r) l:Nat)).testBit j=true:=h
    rw [Nat.testBit_or,Nat.testBit_or,Nat.one_shiftLeft,Nat.testBit_two_pow,Bool.or_eq_true,Bool.or_eq_true] at h
    rcases h with (h|h)|h
    ·exact ⟨b,by simp,.inl (by simp at h;exact h.symm)⟩
    ·rw [nth_eq] at h
     cases q:acc[b]? with
     | none=>rw [q] at h;simp [orec_none] at h
     | some ab=>rw [q,Zh] at h;exact ⟨b,by simp,.inr ⟨ab,q,h⟩⟩
    ·obtain ⟨b',k1,k2⟩:=ih h
     exact ⟨b',by simp [k1],k2⟩
  generalize hm:(List.rec 0 (fun j _ r=>Nat.lor (Nat.lor (Nat.shiftLeft 1 j) (orec (nth acc j) 0 fun a=>a)) r) (bindsOf o):Nat)=mask
  have e:ancF (o::os) acc=ancF os (acc++[mask]):=by
   show ancF os (app acc [_])=_
   rw [app_eq,← hm]
  obtain ⟨h1,h2⟩:=anc_is (j:=j) os (acc++[mask])
  rw [e]
  have low:∀ k,k<acc.length→(ancF os (acc++[mask]))[k]?=acc[k]?:=fun k hk=>by
   rw [h1 k (by simp;omega),List.getElem?_append_left hk]
  refine ⟨low,fun i ai h hj=>?_⟩
  cases i with
  | zero =>
   rw [h1 _ (by simp)] at h
   simp at h
   subst h
   rw [← hm] at hj
   obtain ⟨b,k1,k2⟩:=mk _ hj
   refine ⟨o,by simp,b,k1,k2.imp id ?_⟩
   rintro ⟨ab,k3,k4⟩
   exact ⟨ab,by rw [low b (by rcases List.getElem?_eq_some_iff.1 k3 with ⟨q,_⟩;exact q)];exact k3,k4⟩
  | succ i =>
   have:=h2 i ai (by rw [← h];simp;congr 1;omega) hj
   obtain ⟨o',k1,k2⟩:=this
   exact ⟨o',by simpa using k1,k2⟩
theorem uni_is:∀ {os:List Oper},uniF os=true→∀ (i j:Nat) (o p:Oper) (t:Nat),os[i]?=some o→os[j]?=some p→o.dst=some t→p.dst=some t→i=j
 | [],_,i,j,o,p,t,h,_,_,_=>by simp at h
 | o0::os,hu,i,j,o,p,t,hi,hj,ho,hp=>by
  obtain ⟨h1,h2⟩:=Za (show bcd (orec o0.dst true fun d=>List.rec true (fun p _ q=>bcd (orec p.dst true fun d'=>Bool.not (Nat.beq d d')) q false) os) (uniF os) false=true from hu)
  have key:∀ (l:List Oper) (d:Nat),(List.rec true (fun p _ q=>bcd (orec p.dst true fun d'=>Bool.not (Nat.beq d d')) q false) l:Bool)=true→∀ q∈l,q.dst≠some d:=by
   intro l d
   induction l with
   | nil=>intro _ q hq;simp at hq
   | cons x l ih =>
    intro h q hq
    obtain ⟨k1,k2⟩:=Za (show bcd (orec x.dst true fun d'=>Bool.not (Nat.beq d d')) (List.rec true (fun p _ q=>bcd (orec p.dst true fun d'=>Bool.not (Nat.beq d d')) q false) l) false=true from h)
    rcases List.mem_cons.1 hq with rfl|hq
    ·intro e
     rw [e,Zh,show Nat.beq d d=true from Nat.beq_refl d] at k1
     cases k1
    ·exact ih k2 q hq
  have hh:∀ q∈os,o0.dst=some t→q.dst≠some t:=fun q hq e=>key os t (by rw [e] at h1;exact h1) q hq
  cases i with
  | zero =>
   cases j with
   | zero=>rfl
   | succ j =>
    simp at hi hj
    subst hi
    exact absurd hp (hh p (List.mem_of_getElem? hj) ho)
  | succ i =>
   cases j with
   | zero =>
    simp at hi hj
    subst hj
    exact absurd ho (hh o (List.mem_of_getElem? hi) hp)
   | succ j =>
    rw [uni_is h2 i j o p t (by simpa using hi) (by simpa using hj) ho hp]
theorem snoc_ind {α:Type} {p:List α→Prop} (h0:p []) (h1:∀ A x,p A→p (A++[x])) (A:List α):p A:=by
 have:∀ B:List α,p B.reverse:=by
  intro B
  induction B with
  | nil=>exact h0
  | cons x B ih=>rw [List.reverse_cons];exact h1 _ _ ih
 simpa using this A.reverse
theorem lA_get {s:SS} {t:Nat} {v:SV}:∀ X:List Rec,Lc.get (lA X) s t=some v→(∃ x∈X,x.o.dst=some t∧x.v=v)∨((∀ x∈X,x.o.dst≠some t)∧s.get t=some v):=by
 refine snoc_ind ?_ ?_
 ·intro h
  exact .inr ⟨by simp,h⟩
 ·intro A x ih h
  rw [lA_snoc] at h
  cases hd:x.o.dst with
  | none =>
   rw [hd] at h
   rcases ih h with ⟨y,h1,h2⟩|⟨h1,h2⟩
   ·exact .inl ⟨y,by simp [h1],h2⟩
   ·refine .inr ⟨fun y hy=>?_,h2⟩
    rcases List.mem_append.1 hy with hy|hy
    ·exact h1 y hy
    ·simp at hy;subst hy;rw [hd];simp
  | some d =>
   rw [hd] at h
   have h:Lc.get (.cons d x.v (lA A)) s t=some v:=h
   rw [lc_cons] at h
   by_cases q:d=t
   ·rw [if_pos q] at h
    cases h
    exact .inl ⟨x,by simp,by rw [hd,q],rfl⟩
   ·rw [if_neg q] at h
    rcases ih h with ⟨y,h1,h2⟩|⟨h1,h2⟩
    ·exact .inl ⟨y,by simp [h1],h2⟩
    ·refine .inr ⟨fun y hy=>?_,h2⟩
     rcases List.mem_append.1 hy with hy|hy
     ·exact h1 y hy
     ·simp at hy;subst hy;rw [hd];simpa using q
structure Ctx (P:Program) (call:CallF) (s:SS) (all:List Oper) (an:List Nat) (m0:SM) (n0:Nat) (R:List Rec):Prop where
 hc:CallS P call
 han:an=ancF all []
 fact:∀ X r Y,R=X++r::Y→Fact P call s all an m0 n0 X r
 cov:∀ j,j<all.length→∃ x∈R,x.i=j
 unq:uniF all=true
section
variable {P:Program} {call:CallF} {s:SS} {all:List Oper} {an:List Nat} {m0:SM} {n0:Nat} {R:List Rec}
theorem Ctx.closed (C:Ctx P call s all an m0 n0 R) {r:Rec} {j:Nat} (hj:r.an.testBit j=true):∀ (n:Nat) (X Y:List Rec),X.length≤n→R=X++r::Y→∃ x∈X,x.i=j:=by
 intro n
 induction n generalizing r with
 | zero =>
  intro X Y hn hR
  have F:=C.fact X r Y hR
  have:X=[]:=List.eq_nil_of_length_eq_zero (by omega)
  subst this
  have hn:=F.hn
  rw [C.han] at hn
  obtain ⟨o,h1,b,h2,h3⟩:=(anc_is (j:=j) all []).2 r.i r.an (by simpa using hn) hj
  rw [F.o] at h1
  cases h1
  obtain ⟨x,hx,_⟩:=F.binds b h2
  simp at hx
 | succ n ih =>
  intro X Y hn hR
  have F:=C.fact X r Y hR
  have hn':=F.hn
  rw [C.han] at hn'
  obtain ⟨o,h1,b,h2,h3⟩:=(anc_is (j:=j) all []).2 r.i r.an (by simpa using hn') hj
  rw [F.o] at h1
  cases h1
  obtain ⟨x,hx,hxb⟩:=F.binds b h2
  rcases h3 with rfl|⟨ab,h4,h5⟩
  ·exact ⟨x,hx,hxb⟩
  ·obtain ⟨X1,X2,rfl⟩:=List.append_of_mem hx
   have hR2:R=X1++x::(X2++r::Y):=by rw [hR];simp
   have F2:=C.fact _ _ _ hR2
   have h6:=F2.hn
   rw [C.han,hxb,h4] at h6
   cases h6
   obtain ⟨y,hy,hyj⟩:=ih h5 X1 _ (by simp at hn;omega) hR2
   exact ⟨y,by simp [hy],hyj⟩
theorem Ctx.before (C:Ctx P call s all an m0 n0 R) {X Y:List Rec} {r:Rec} (hR:R=X++r::Y) {j:Nat} (hj:r.an.testBit j=true):∃ x∈X,x.i=j:=C.closed hj _ X Y (Nat.le_refl _) hR
theorem Ctx.up (C:Ctx P call s all an m0 n0 R) {X Y:List Rec} {r:Rec} (hR:R=X++r::Y):r.nx≤r.nx':=by
 have F:=C.fact _ _ _ hR
 cases hw:r.w
 ·rw [(F.stp.no hw).2.2];exact Nat.le_refl _
 ·rcases Nat.lt_or_ge (clsF r.o.op) 3 with h|h
  ·have h:clsF r.o.op=0∨clsF r.o.op=1∨clsF r.o.op=2:=by omega
   rcases h with h|h|h
   ·rw [(F.stp.c0 hw h).2.1];exact Nat.le_refl _
   ·rw [(F.stp.c1 hw h).2.1];exact Nat.le_refl _
   ·exact (op_s C.hc (F.stp.c2 hw h)).1
  ·rw [(F.stp.c3 hw h).1];omega
theorem Ctx.upA (C:Ctx P call s all an m0 n0 R) (X:List Rec):∀ (Y Z:List Rec),R=X++Y++Z→nA n0 X≤nA n0 (X++Y):=by
 refine snoc_ind (p:=fun Y=>∀ Z,R=X++Y++Z→nA n0 X≤nA n0 (X++Y)) ?_ ?_
 ·intro Z _;rw [List.append_nil];exact Nat.le_refl _
 ·intro A x ih Z hR
  rw [← List.append_assoc,nA_snoc]
  have hR':R=(X++A)++x::Z:=by rw [hR];simp
  have:=C.up hR'
  have h2:=(C.fact _ _ _ hR').nx
  have h3:=ih (x::Z) hR'
  omega
theorem Ctx.ends (C:Ctx P call s all an m0 n0 R) {X Y:List Rec} {r:Rec} (hR:R=X++r::Y):n0≤r.nx∧r.nx'≤nA n0 R:=by
 constructor
 ·rw [(C.fact _ _ _ hR).nx]
  exact C.upA [] X (r::Y) (by simpa using hR)
 ·have:=C.upA (X++[r]) Y [] (by rw [hR];simp)
  rw [nA_snoc] at this
  rw [hR]
  simpa using this
theorem Ctx.lt (C:Ctx P call s all an m0 n0 R) {X Y:List Rec} {r y:Rec} (hR:R=X++r::Y) (hy:y∈X):y.nx'≤r.nx:=by
 obtain ⟨X1,X2,rfl⟩:=List.append_of_mem hy
 rw [(C.fact _ _ _ hR).nx]
 have:=C.upA (X1++[y]) X2 (r::Y) (by rw [hR];simp)
 rw [nA_snoc] at this
 simpa using this
theorem Ctx.where (_C:Ctx P call s all an m0 n0 R) {X Y:List Rec} {r y:Rec} (hR:R=X++r::Y) (hy:y∈R):y∈X∨y=r∨∃ Y1 Y2,R=(X++r::Y1)++y::Y2:=by
 rw [hR] at hy
 rcases List.mem_append.1 hy with h|h
 ·exact .inl h
 ·rcases List.mem_cons.1 h with h|h
  ·exact .inr (.inl h)
  ·obtain ⟨Y1,Y2,rfl⟩:=List.append_of_mem h
   exact .inr (.inr ⟨Y1,Y2,by rw [hR];simp⟩)
theorem Ctx.apart (C:Ctx P call s all an m0 n0 R) {r y:Rec} (hr:r∈R) (hy:y∈R) (h:y.i≠r.i):y.nx'≤r.nx∨r.nx'≤y.nx:=by
 obtain ⟨X,Y,hR⟩:=List.append_of_mem hr
 rcases C.where hR hy with h1|rfl|⟨Y1,Y2,h1⟩
 ·exact .inl (C.lt hR h1)
 ·exact absurd rfl h
 ·exact .inr (C.lt h1 (by simp))
theorem Ctx.same (C:Ctx P call s all an m0 n0 R) {r y:Rec} (hr:r∈R) (hy:y∈R) (h:y.i=r.i):y=r:=by
 obtain ⟨X,Y,hR⟩:=List.append_of_mem hr
 rcases C.where hR hy with h1|h1|⟨Y1,Y2,h1⟩
 ·exact absurd h ((C.fact _ _ _ hR).new y h1)
 ·exact h1
 ·exact absurd h.symm ((C.fact _ _ _ h1).new r (by simp))
theorem Ctx.mem (C:Ctx P call s all an m0 n0 R) {R1:List Rec} {k:Nat} {c:SB}:∀ (A Z:List Rec),R=R1++A++Z→(∀ x∈A,x.w=true→clsF x.o.op≠2)→(mA m0 (R1++A)).get k=some c →
    (∃ x∈A,x.w=true∧3≤clsF x.o.op∧x.nx=k∧x.m'.get k=some c)∨(mA m0 R1).get k=some c:=by
 refine snoc_ind (p:=fun A=>∀ Z,R=R1++A++Z→(∀ x∈A,x.w=true→clsF x.o.op≠2)→(mA m0 (R1++A)).get k=some c →
  (∃ x∈A,x.w=true∧3≤clsF x.o.op∧x.nx=k∧x.m'.get k=some c)∨(mA m0 R1).get k=some c) ?_ ?_
 ·intro Z _ _ h
  rw [List.append_nil] at h
  exact .inr h
 ·intro A x ih Z hR hA h
  rw [← List.append_assoc,mA_snoc] at h
  have hR':R=(R1++A)++x::Z:=by rw [hR];simp
  have F:=C.fact _ _ _ hR'
  have go:(mA m0 (R1++A)).get k=some c→(∃ x'∈A++[x],x'.w=true∧3≤clsF x'.o.op∧x'.nx=k∧x'.m'.get k=some c)∨(mA m0 R1).get k=some c:=by
   intro h
   rcases ih (x::Z) hR' (fun y hy=>hA y (by simp [hy])) h with ⟨y,h1,h2⟩|h1
   ·exact .inl ⟨y,by simp [h1],h2⟩
   ·exact .inr h1
  cases hw:x.w
  ·rw [(F.stp.no hw).2.1,F.m] at h;exact go h
  ·rcases Nat.lt_or_ge (clsF x.o.op) 3 with q|q
   ·have q:clsF x.o.op=0∨clsF x.o.op=1∨clsF x.o.op=2:=by omega
    rcases q with q|q|q
    ·rw [(F.stp.c0 hw q).1,F.m] at h;exact go h
    ·rw [(F.stp.c1 hw q).1,F.m] at h;exact go h
    ·exact absurd q (hA x (by simp) hw)
   ·obtain ⟨_,m1,b,_,_,k3⟩:=F.stp.c3 hw q
    by_cases e:x.nx=k
    ·exact .inl ⟨x,by simp,hw,q,e,h⟩
    ·rw [k3,Zl,if_neg e,F.m] at h;exact go h
theorem Ctx.cover (C:Ctx P call s all an m0 n0 R) {k:Nat}:∀ (R2 R1:List Rec),R=R1++R2→nA n0 R1≤k→k<nA n0 R→∃ x∈R2,x.nx≤k∧k<x.nx'
 | [],R1,hR,h1,h2=>by rw [hR,List.append_nil] at h2;omega
 | x::R2,R1,hR,h1,h2=>by
  have F:=C.fact _ _ _ hR
  by_cases q:k<x.nx'
  ·exact ⟨x,by simp,by rw [F.nx];exact h1,q⟩
  ·obtain ⟨y,h3,h4⟩:=C.cover R2 (R1++[x]) (by rw [hR];simp) (by rw [nA_snoc];omega) h2
   exact ⟨y,by simp [h3],h4⟩
end
end NE
namespace NE
def Sm (ls:Array Bool) (j:Nat):Prop:=ls[j]?=some true
theorem Sm.set {ls:Array Bool} {i:Nat} (h:i<ls.size) (j:Nat):Sm (ls.setIfInBounds i true) j↔j=i∨Sm ls j:=by
 unfold Sm
 rw [Array.getElem?_setIfInBounds]
 by_cases e:i=j
 ·subst e;simp [h]
 ·rw [if_neg e]
  constructor
  ·exact fun q=>.inr q
  ·rintro (q|q)
   ·exact absurd q.symm e
   ·exact q
noncomputable def restL (ts:List Nat) (l:Lc) (s:SS):Lc:=ts.foldr (fun t acc=>match Lc.get l s t with|some v=>.cons t v acc|none=>acc) .nil
theorem restL_get (l:Lc) (s:SS) (t:Nat):∀ ts:List Nat,Lc.get (restL ts l s) .e t=if t∈ts then Lc.get l s t else none
 | []=>rfl
 | t0::ts=>by
  have ih:=restL_get l s t ts
  show Lc.get (match Lc.get l s t0 with|some v=>.cons t0 v (restL ts l s)|none=>restL ts l s) .e t=_
  cases q:Lc.get l s t0 with
  | none =>
   show Lc.get (restL ts l s) .e t=_
   rw [ih]
   by_cases e:t=t0
   ·subst e;simp [q]
   ·simp [e]
  | some v =>
   show Lc.get (.cons t0 v (restL ts l s)) .e t=_
   rw [lc_cons,ih]
   by_cases e:t=t0
   ·subst e;simp [q]
   ·rw [if_neg (fun h=>e h.symm)];simp [e]
theorem tmpsOf_mem {t:Nat}:∀ xs:List Operand,Operand.tmp t∈xs→t∈tmpsOf xs
 | [],h=>by simp at h
 | x::xs,h=>by
  rcases List.mem_cons.1 h with rfl|h
  ·show t∈t::tmpsOf xs;simp
  ·have:=tmpsOf_mem xs h
   cases x with
   | tmp t'=>show t∈t'::tmpsOf xs;simp [this]
   | _=>exact this
theorem nm_ent {e:Env} {v:SV} {u:Value} {k:Nat} (h:RV e v u) (hk:nmOf v=some k):e k≠none:=by
 cases h <;> simp [nmOf] at hk <;> subst hk <;>(intro q;simp_all)
theorem rdM_is (o:Op) (l:Lc) (s:SS) (m:SM):rdM o l s m=.e∨∃ x v k b,ev x l s=some v∧nmOf v=some k∧m.get k=some b∧rdM o l s m=Tr.put .e k b:=by
 unfold rdM
 cases rdOf o with
 | none=>exact .inl rfl
 | some x =>
  rw [Zh]
  cases h1:ev x l s with
  | none=>exact .inl rfl
  | some v =>
   rw [Zh]
   cases h2:nmOf v with
   | none=>exact .inl rfl
   | some k =>
    rw [Zh]
    cases h3:m.get k with
    | none=>exact .inl rfl
    | some b=>exact .inr ⟨x,v,k,b,h1,h2,h3,rfl⟩
section
variable {P:Program} {call:CallF} {s:SS} {all:List Oper} {an:List Nat} {m0:SM} {n0:Nat} {R:List Rec} {B:Nat} {e:Env} {f:Mu} {a0:Act} {w0:World}
structure Run (P:Program) (call:CallF) (s:SS) (all:List Oper) (m0:SM) (n0:Nat) (R:List Rec) (B:Nat) (e:Env) (f:Mu) (a0:Act) (w0:World) (ls:Array Bool) (a:Act) (w:World) (e':Env) (μ:Mu) (R1 R2:List Rec):Prop where
 size:ls.size=all.length
 clo:∀ r∈R,Sm ls r.i→∀ j,r.an.testBit j=true→Sm ls j
 ee:EE e e'
 out:∀ k,(k<n0∨nA n0 R≤k)→e' k=e k
 und:∀ r∈R,¬ Sm ls r.i→∀ k,r.nx≤k→k<r.nx'→e' k=none
 s1:∀ r∈R,Sm ls r.i→∀ t,r.o.dst=some t→RV e' r.v (a.tmps.getD t undef)
 s2:∀ t v,s.get t=some v→(∀ r∈R,Sm ls r.i→r.o.dst≠some t)→t<a.tmps.size∧RV e' v (a.tmps.getD t undef)
 spl:R=R1++R2
 r1:R1=[]∨∃ R0 t,R1=R0++[t]∧t.w=true∧clsF t.o.op=2∧Sm ls t.i
 r2:∀ r∈R2,r.w=true→clsF r.o.op=2→¬ Sm ls r.i
 inv:NInv B e' μ w
 mu1:∀ k c,uni (mA m0 R1) f k=some c→μ k=some c
 mu2:∀ y∈R2,y.w=true→3≤clsF y.o.op→Sm ls y.i→∀ c,y.m'.get y.nx=some c→μ y.nx=some c
 dj:Disj (mA m0 R1) f
 md:∀ k,nA n0 R1≤k→k<nA n0 R→(mA m0 R1).get k=none
 bel:Below B w0 w
 defs:a.defers=a0.defers
 asz:a.tmps.size=a0.tmps.size
variable {ls:Array Bool} {a:Act} {w:World} {e':Env} {μ:Mu} {R1 R2:List Rec}
structure Rdy (ls:Array Bool) (R:List Rec) (r:Rec):Prop where
 mem:r∈R
 lt:r.i<ls.size
 no:¬ Sm ls r.i
 an:∀ j,r.an.testBit j=true→Sm ls j
theorem Run.rdy (C:Ctx P call s all an m0 n0 R) (H:Run P call s all m0 n0 R B e f a0 w0 ls a w e' μ R1 R2) {r:Rec} (hr:r∈R) (hn:¬ Sm ls r.i) (hb:∀ j∈bindsOf r.o,Sm ls j):Rdy ls R r:=by
 obtain ⟨X,Y,hR⟩:=List.append_of_mem hr
 have F:=C.fact _ _ _ hR
 refine ⟨hr,?_,hn,fun j hj=>?_⟩
 ·rw [H.size];exact (List.getElem?_eq_some_iff.1 F.o).1
 ·have hn':=F.hn
  rw [C.han] at hn'
  obtain ⟨o,h1,b,h2,h3⟩:=(anc_is (j:=j) all []).2 r.i r.an (by simpa using hn') hj
  rw [F.o] at h1
  cases h1
  rcases h3 with rfl|⟨ab,h4,h5⟩
  ·exact hb _ h2
  ·have hS:=hb b h2
   have hlt:b<all.length:=by
    rw [← H.size];exact (Array.getElem?_eq_some_iff.1 hS).1
   obtain ⟨x,hx,rfl⟩:=C.cov b hlt
   obtain ⟨X',Y',hR'⟩:=List.append_of_mem hx
   have h6:=(C.fact _ _ _ hR').hn
   rw [C.han,h4] at h6
   cases h6
   exact H.clo x hx hS j h5
theorem Run.look (C:Ctx P call s all an m0 n0 R) (H:Run P call s all m0 n0 R B e f a0 w0 ls a w e' μ R1 R2) (hds:∀ o∈all,∀ d,o.dst=some d→d<a0.tmps.size) {r:Rec} (hr:Rdy ls R r):Look e' (restL (seesOf all r.o) r.l s) .e a:=by
 obtain ⟨X,Y,hR⟩:=List.append_of_mem hr.mem
 have F:=C.fact _ _ _ hR
 intro t v hv
 rw [restL_get] at hv
 by_cases ht:t∈seesOf all r.o
 ·rw [if_pos ht,F.l] at hv
  have hfl:=F.flow t ht
  have allx:∀ x∈R,all[x.i]?=some x.o:=fun x hx=>by
   obtain ⟨X',Y',hR'⟩:=List.append_of_mem hx
   exact (C.fact _ _ _ hR').o
  have anx:∀ x∈R,an[x.i]?=some x.an:=fun x hx=>by
   obtain ⟨X',Y',hR'⟩:=List.append_of_mem hx
   exact (C.fact _ _ _ hR').hn
  rcases lA_get X hv with ⟨x,hx,hd,hxv⟩|⟨hno,hsv⟩
  ·have hxR:x∈R:=by rw [hR];simp [hx]
   have hS:Sm ls x.i:=by
    rcases hfl x.i x.o (allx x hxR) hd with h|h|⟨aj,h,h2⟩
    ·exact absurd h (F.new x hx)
    ·exact hr.an _ h
    ·rw [anx x hxR] at h
     cases h
     obtain ⟨X1,X2,rfl⟩:=List.append_of_mem hx
     obtain ⟨y,hy,hyi⟩:=C.before (X:=X1) (r:=x) (Y:=X2++r::Y) (by rw [hR];simp) h2
     exact absurd hyi (F.new y (by simp [hy]))
   rw [← hxv]
   exact ⟨by rw [H.asz];exact hds x.o (List.mem_of_getElem? (allx x hxR)) t hd,H.s1 x hxR hS t hd⟩
  ·refine H.s2 t v hsv fun y hy hS hd=>?_
   rcases hfl y.i y.o (allx y hy) hd with h|h|⟨aj,h,h2⟩
   ·exact hr.no (h ▸ hS)
   ·obtain ⟨x,hx,hxi⟩:=C.before hR h
    have:y=x:=C.same (by rw [hR];simp [hx]) hy hxi.symm
    subst this
    exact hno y hx hd
   ·rw [anx y hy] at h
    cases h
    exact hr.no (H.clo y hy hS _ h2)
 ·rw [if_neg ht] at hv;cases hv
theorem Run.put (C:Ctx P call s all an m0 n0 R) (H:Run P call s all m0 n0 R B e f a0 w0 ls a w e' μ R1 R2) (hds:∀ o∈all,∀ d,o.dst=some d→d<a0.tmps.size) {r:Rec} (hr:Rdy ls R r)
    {u:Value} {w':World} {e2:Env} {μ':Mu} {S1 S2:List Rec} (h1:EE e' e2) (h2:∀ k,(k<r.nx∨r.nx'≤k)→e2 k=e' k) (h3:RV e2 r.v u) (h4:NInv B e2 μ' w') (h5:Below B w w') (h6:R=S1++S2)
    (h7:S1=[]∨∃ R0 t,S1=R0++[t]∧t.w=true∧clsF t.o.op=2∧Sm (ls.setIfInBounds r.i true) t.i) (h8:∀ x∈S2,x.w=true→clsF x.o.op=2→¬ Sm (ls.setIfInBounds r.i true) x.i)
    (h9:∀ k c,uni (mA m0 S1) f k=some c→μ' k=some c) (h10:∀ y∈S2,y.w=true→3≤clsF y.o.op→Sm (ls.setIfInBounds r.i true) y.i→∀ c,y.m'.get y.nx=some c→μ' y.nx=some c) (h11:Disj (mA m0 S1) f)
    (h12:∀ k,nA n0 S1≤k→k<nA n0 R→(mA m0 S1).get k=none):Run P call s all m0 n0 R B e f a0 w0 (ls.setIfInBounds r.i true) (a.put r.o.dst u) w' e2 μ' S1 S2:=by
 have hset:=Sm.set hr.lt
 obtain ⟨X,Y,hR⟩:=List.append_of_mem hr.mem
 have F:=C.fact _ _ _ hR
 have hen:=C.ends hR
 have allx:∀ x∈R,all[x.i]?=some x.o:=fun x hx=>by
  obtain ⟨X',Y',hR'⟩:=List.append_of_mem hx
  exact (C.fact _ _ _ hR').o
 have hdr:∀ d,r.o.dst=some d→d<a.tmps.size:=fun d hd=>by rw [H.asz];exact hds r.o (List.mem_of_getElem? F.o) d hd
 have hput:∀ t,r.o.dst≠some t→(a.put r.o.dst u).tmps.getD t undef=a.tmps.getD t undef:=by
  intro t ht
  cases hd:r.o.dst with
  | none=>rfl
  | some d=>rw [put_getD (hdr d hd),if_neg (fun q=>ht (by rw [hd,q]))]
 refine ⟨by rw [Array.size_setIfInBounds];exact H.size,fun x hx hS j hj=>?_,H.ee.trans h1,fun k hk=>?_,fun x hx hS k k1 k2=>?_,fun x hx hS t ht=>?_,fun t v hv hno=>?_,h6,h7,h8,h4,h9,h10,h11,h12,H.bel.trans h5,by rw [put_defers];exact H.defs,by rw [put_tmps];exact H.asz⟩
 ·rw [hset]
  rcases (hset _).1 hS with q|q
  ·have:x=r:=C.same hr.mem hx q
   subst this
   exact .inr (hr.an j hj)
  ·exact .inr (H.clo x hx q j hj)
 ·rw [h2 k (by omega),H.out k hk]
 ·have hxr:x.i≠r.i:=fun q=>hS ((hset _).2 (.inl q))
  have hS':¬ Sm ls x.i:=fun q=>hS ((hset _).2 (.inr q))
  rw [h2 k (by rcases C.apart hr.mem hx hxr with q|q <;> omega)]
  exact H.und x hx hS' k k1 k2
 ·rcases (hset _).1 hS with q|q
  ·have:x=r:=C.same hr.mem hx q
   subst this
   rw [ht,put_getD (hdr t ht),if_pos rfl]
   exact h3
  ·have hne:r.o.dst≠some t:=fun hd=>by
    have:=uni_is C.unq _ _ _ _ t (allx x hx) F.o ht hd
    exact hr.no (this ▸ q)
   rw [hput t hne]
   exact (H.s1 x hx q t ht).mono h1
 ·have hne:r.o.dst≠some t:=hno r hr.mem ((hset _).2 (.inl rfl))
  obtain ⟨k1,k2⟩:=H.s2 t v hv fun x hx hS=>hno x hx ((hset _).2 (.inr hS))
  rw [put_tmps,hput t hne]
  exact ⟨k1,k2.mono h1⟩
theorem Run.keep (C:Ctx P call s all an m0 n0 R) (H:Run P call s all m0 n0 R B e f a0 w0 ls a w e' μ R1 R2) (hds:∀ o∈all,∀ d,o.dst=some d→d<a0.tmps.size) {r:Rec} (hr:Rdy ls R r) (hne:r.w=true→clsF r.o.op<2)
    {u:Value} {w':World} {e2:Env} (h1:EE e' e2) (h2:∀ k,(k<r.nx∨r.nx'≤k)→e2 k=e' k) (h3:RV e2 r.v u) (h4:NInv B e2 μ w') (h5:Below B w w'):Run P call s all m0 n0 R B e f a0 w0 (ls.setIfInBounds r.i true) (a.put r.o.dst u) w' e2 μ R1 R2:=by
 have hset:=Sm.set hr.lt
 refine H.put C hds hr h1 h2 h3 h4 h5 H.spl ?_ (fun x hx k1 k2 hS=>?_) H.mu1 (fun y hy k1 k2 hS c hc=>?_) H.dj H.md
 ·rcases H.r1 with q|⟨R0,t,q1,q2,q3,q4⟩
  ·exact .inl q
  ·exact .inr ⟨R0,t,q1,q2,q3,(hset _).2 (.inr q4)⟩
 ·rcases (hset _).1 hS with q|q
  ·have:x=r:=C.same hr.mem (by rw [H.spl];simp [hx]) q
   subst this
   have:=hne k1
   omega
  ·exact H.r2 x hx k1 k2 q
 ·rcases (hset _).1 hS with q|q
  ·have:y=r:=C.same hr.mem (by rw [H.spl];simp [hy]) q
   subst this
   have:=hne k1
   omega
  ·exact H.mu2 y hy k1 k2 q c hc
theorem uni_e (μ:Mu):uni .e μ=μ:=by
 funext k
 show (none:Option SB).or (μ k)=μ k
 simp
theorem disj_e (μ:Mu):Disj .e μ:=fun k h=>by simp [get_e] at h
theorem Run.pure (C:Ctx P call s all an m0 n0 R) (H:Run P call s all m0 n0 R B e f a0 w0 ls a w e' μ R1 R2) (hds:∀ o∈all,∀ d,o.dst=some d→d<a0.tmps.size) (hg:Glob e) {r:Rec} (hr:Rdy ls R r) (hw:r.w=true) (hc:clsF r.o.op=0) {K:Act→World→Prop} {Q:Exit→Act→World→Prop}
    (hK:∀ a' w' e2 μ' S1 S2,Run P call s all m0 n0 R B e f a0 w0 (ls.setIfInBounds r.i true) a' w' e2 μ' S1 S2→K a' w'):r.o.wp P a w K Q:=by
 have hl:=H.look C hds hr
 obtain ⟨X,Y,hR⟩:=List.append_of_mem hr.mem
 have F:=C.fact _ _ _ hR
 obtain ⟨_,hnx,m1,h⟩:=F.stp.c0 hw hc
 rw [opF_congr (l':=restL (seesOf all r.o) r.l s) (s':=.e) r.o.op (fun t ht=>by
  rw [restL_get,if_pos]
  unfold seesOf;rw [app_eq];exact List.mem_append_left _ (tmpsOf_mem _ ht))] at h
 obtain ⟨_,h2⟩:=op_s (o:=r.o) C.hc h
 refine h2 B e' μ a w (hg.mono H.ee) (disj_e μ) (fun k k1 k2=>by omega) (by rw [uni_e];exact H.inv) hl K Q ?_
 rintro u w' ⟨e2,k1,k2,k3,k4,k5,k6⟩
 exact hK _ _ _ _ _ _ (H.keep C hds hr (fun _=>by omega) k1 (fun k hk=>k2 k (by omega)) k3 (k4.weak fun j c q=>⟨c,uni_f k6 q,.inl rfl⟩) k5)
theorem Run.read (C:Ctx P call s all an m0 n0 R) (H:Run P call s all m0 n0 R B e f a0 w0 ls a w e' μ R1 R2) (hds:∀ o∈all,∀ d,o.dst=some d→d<a0.tmps.size) (hg:Glob e) {r:Rec} (hr:Rdy ls R r) (_hw:r.w=true) (hc:clsF r.o.op=1) {M m1:SM} {nx:Nat} (hM:∀ k c,M.get k=some c→e' k≠none→μ k=some c) (h:opF r.o.op P call r.l s (rdM r.o.op r.l s M) nx=.ok r.v m1 nx) {K:Act→World→Prop} {Q:Exit→Act→World→Prop}
    (hK:∀ a' w' e2 μ' S1 S2,Run P call s all m0 n0 R B e f a0 w0 (ls.setIfInBounds r.i true) a' w' e2 μ' S1 S2→K a' w'):r.o.wp P a w K Q:=by
 have hl:=H.look C hds hr
 have hcg:∀ t,Operand.tmp t∈r.o.op.operands.toList→Lc.get r.l s t=Lc.get (restL (seesOf all r.o) r.l s) .e t:=fun t ht=>by
  rw [restL_get,if_pos]
  unfold seesOf;rw [app_eq];exact List.mem_append_left _ (tmpsOf_mem _ ht)
 rw [opF_congr r.o.op hcg,rdM_congr hcg] at h
 have hkeep:=rd_keeps hc h
 subst hkeep
 have go:∀ (m':SM) (f2:Mu),opF r.o.op P call (restL (seesOf all r.o) r.l s) .e m' nx=.ok r.v m' nx→Disj m' f2→uni m' f2=μ→r.o.wp P a w K Q:=by
  intro m' f2 h hd hu
  obtain ⟨_,h2⟩:=op_s (o:=r.o) C.hc h
  refine h2 B e' f2 a w (hg.mono H.ee) hd (fun k k1 k2=>by omega) (by rw [hu];exact H.inv) hl K Q ?_
  rintro u w' ⟨e2,k1,k2,k3,k4,k5,k6⟩
  rw [hu] at k4
  exact hK _ _ _ _ _ _ (H.keep C hds hr (fun _=>by omega) k1 (fun k hk=>k2 k (by omega)) k3 k4 k5)
 rcases rdM_is r.o.op (restL (seesOf all r.o) r.l s) .e M with q|⟨x,v,k,b,q1,q2,q3,q⟩
 ·rw [q] at h
  exact go _ μ h (disj_e μ) (uni_e μ)
 ·rw [q] at h
  have hek:=nm_ent (ev_rv hl (hg.mono H.ee) q1) q2
  have hμ:=hM k b q3 hek
  refine go _ (fun j=>if j=k then none else μ j) h (fun j hj=>?_) (funext fun j=>?_)
  ·rw [Zl] at hj
   by_cases e1:k=j
   ·simp [e1]
   ·rw [if_neg e1] at hj;simp [get_e] at hj
  ·unfold uni
   rw [Zl]
   by_cases e1:k=j
   ·subst e1;rw [if_pos rfl,hμ];rfl
   ·have:¬ j=k:=fun q=>e1 q.symm
    rw [if_neg e1,get_e];simp [this]
theorem Run.memA (C:Ctx P call s all an m0 n0 R) (H:Run P call s all m0 n0 R B e f a0 w0 ls a w e' μ R1 R2) {A Z:List Rec} (hA:R2=A++Z) (ht:∀ x∈A,x.w=true→clsF x.o.op≠2) {k:Nat} {c:SB} (h:(mA m0 (R1++A)).get k=some c) (he:(∀ x∈A,x.w=true→3≤clsF x.o.op→Sm ls x.i)∨e' k≠none):μ k=some c∧(k<n0∨nA n0 R≤k∨k<nA n0 (R1++A)):=by
 have hR:R=R1++A++Z:=by rw [H.spl,hA];simp
 have hup:=C.upA R1 A Z hR
 have h0:=C.upA [] R1 (A++Z) (by rw [hR];simp)
 rcases C.mem A Z hR ht h with ⟨x,hx,k1,k2,k3,k4⟩|h
 ·have hxR:x∈R:=by rw [hR];simp [hx]
  obtain ⟨X,Y,hRx⟩:=List.append_of_mem hxR
  obtain ⟨q1,_⟩:=(C.fact _ _ _ hRx).stp.c3 k1 k2
  have hS:Sm ls x.i:=by
   rcases he with he|he
   ·exact he x hx k1 k2
   ·apply Classical.byContradiction
    intro hn
    exact he (H.und x hxR hn k (by omega) (by omega))
  obtain ⟨A1,A2,rfl⟩:=List.append_of_mem hx
  have hlt:x.nx'≤nA n0 (R1++(A1++x::A2)):=by
   have:=C.upA (R1++A1++[x]) A2 Z (by rw [hR];simp)
   rw [nA_snoc] at this
   simpa using this
  refine ⟨?_,.inr (.inr (by omega))⟩
  rw [← k3]
  exact H.mu2 x (by rw [hA];simp) k1 k2 hS c (by rw [k3];exact k4)
 ·refine ⟨H.mu1 k c (uni_m h),?_⟩
  rcases Nat.lt_or_ge k (nA n0 R1) with q|q
  ·exact .inr (.inr (by omega))
  ·rcases Nat.lt_or_ge k (nA n0 R) with q2|q2
   ·rw [H.md k q q2] at h;cases h
   ·exact .inr (.inl q2)
theorem Run.make (C:Ctx P call s all an m0 n0 R) (H:Run P call s all m0 n0 R B e f a0 w0 ls a w e' μ R1 R2) (hds:∀ o∈all,∀ d,o.dst=some d→d<a0.tmps.size) (hg:Glob e) {r:Rec} (hr:Rdy ls R r) (hw:r.w=true) (hc:3≤clsF r.o.op) {K:Act→World→Prop} {Q:Exit→Act→World→Prop}
    (hK:∀ a' w' e2 μ' S1 S2,Run P call s all m0 n0 R B e f a0 w0 (ls.setIfInBounds r.i true) a' w' e2 μ' S1 S2→K a' w'):r.o.wp P a w K Q:=by
 have hset:=Sm.set hr.lt
 have hl:=H.look C hds hr
 obtain ⟨X,Y,hR⟩:=List.append_of_mem hr.mem
 have F:=C.fact _ _ _ hR
 obtain ⟨hnx,m1,b,h,hb,hm'⟩:=F.stp.c3 hw hc
 rw [opF_congr (l':=restL (seesOf all r.o) r.l s) (s':=.e) r.o.op (fun t ht=>by
  rw [restL_get,if_pos]
  unfold seesOf;rw [app_eq];exact List.mem_append_left _ (tmpsOf_mem _ ht))] at h
 obtain ⟨_,h2⟩:=op_s (o:=r.o) C.hc h
 refine h2 B e' μ a w (hg.mono H.ee) (disj_e μ) (fun k k1 k2=>H.und r hr.mem hr.no k k1 (by omega)) (by rw [uni_e];exact H.inv) hl K Q ?_
 rintro u w' ⟨e2,k1,k2,k3,k4,k5,k6⟩
 refine hK _ _ _ _ _ _ (H.put C hds hr k1 (fun k hk=>k2 k (by omega)) k3 k4 k5 H.spl ?_ (fun x hx g1 g2 hS=>?_) (fun k c q=>uni_f k6 (H.mu1 k c q)) (fun y hy g1 g2 hS c hcc=>?_) H.dj H.md)
 ·rcases H.r1 with q|⟨R0,t,q1,q2,q3,q4⟩
  ·exact .inl q
  ·exact .inr ⟨R0,t,q1,q2,q3,(hset _).2 (.inr q4)⟩
 ·rcases (hset _).1 hS with q|q
  ·have:x=r:=C.same hr.mem (by rw [H.spl];simp [hx]) q
   subst this
   omega
  ·exact H.r2 x hx g1 g2 q
 ·rcases (hset _).1 hS with q|q
  ·have:y=r:=C.same hr.mem (by rw [H.spl];simp [hy]) q
   subst this
   rw [hm',Zl,if_pos rfl] at hcc
   cases hcc
   exact uni_m hb
  ·exact uni_f k6 (H.mu2 y hy g1 g2 q c hcc)
theorem Run.turn (C:Ctx P call s all an m0 n0 R) (H:Run P call s all m0 n0 R B e f a0 w0 ls a w e' μ R1 R2) (hds:∀ o∈all,∀ d,o.dst=some d→d<a0.tmps.size) (hg:Glob e) (hfe:∀ k c,f k=some c→e k≠none) (hfr:Fr e n0 (nA n0 R)) {r:Rec} (hr:Rdy ls R r) (hw:r.w=true) (hc:clsF r.o.op=2) {K:Act→World→Prop} {Q:Exit→Act→World→Prop}
    (hK:∀ a' w' e2 μ' S1 S2,Run P call s all m0 n0 R B e f a0 w0 (ls.setIfInBounds r.i true) a' w' e2 μ' S1 S2→K a' w'):r.o.wp P a w K Q:=by
 have hset:=Sm.set hr.lt
 have hl:=H.look C hds hr
 have hrm:=hr.mem
 -- it lies behind the turners that are done
 have hr2:r∈R2:=by
  rw [H.spl] at hrm
  rcases List.mem_append.1 hrm with q|q
  ·exfalso
   rcases H.r1 with q1|⟨R0,t,q1,q2,q3,q4⟩
   ·rw [q1] at q;simp at q
   ·rw [q1] at q
    rcases List.mem_append.1 q with q|q
    ·have hRt:R=R0++t::R2:=by rw [H.spl,q1];simp
     have:=(C.fact _ _ _ hRt).tu q3 r q (by omega)
     exact hr.no (H.clo t (by rw [hRt];simp) q4 _ this)
    ·simp at q;subst q;exact hr.no q4
  ·exact q
 obtain ⟨A,Z,hA⟩:=List.append_of_mem hr2
 have hR:R=(R1++A)++r::Z:=by rw [H.spl,hA];simp
 have F:=C.fact _ _ _ hR
 have hA1:∀ x∈A,x.w=true→clsF x.o.op≠2:=fun x hx q1 q2=>H.r2 x (by rw [hA];simp [hx]) q1 q2 (hr.an _ (F.tu hc x (by simp [hx]) (by omega)))
 have hA2:∀ x∈A,x.w=true→3≤clsF x.o.op→Sm ls x.i:=fun x hx _ q2=>hr.an _ (F.tu hc x (by simp [hx]) (by omega))
 have h:=F.stp.c2 hw hc
 rw [F.m,F.nx] at h
 rw [opF_congr (l':=restL (seesOf all r.o) r.l s) (s':=.e) r.o.op (fun t ht=>by
  rw [restL_get,if_pos]
  unfold seesOf;rw [app_eq];exact List.mem_append_left _ (tmpsOf_mem _ ht))] at h
 obtain ⟨hle,h2⟩:=op_s (o:=r.o) C.hc h
 have hmA:∀ k c,(mA m0 (R1++A)).get k=some c→μ k=some c∧(k<n0∨nA n0 R≤k∨k<nA n0 (R1++A)):=fun k c q=>H.memA C hA hA1 q (.inl hA2)
 refine h2 B e' (fun k=>if ((mA m0 (R1++A)).get k).isSome then none else μ k) a w (hg.mono H.ee) (fun k hk=>by simp [hk]) (fun k k1 k2=>H.und r hr.mem hr.no k (by rw [F.nx];exact k1) k2)
  (H.inv.weak fun k c q=>⟨c,?_,.inl rfl⟩) hl K Q ?_
 ·unfold uni at q
  cases q2:(mA m0 (R1++A)).get k with
  | none=>simpa [q2] using q
  | some d=>simp [q2] at q;subst q;exact (hmA k d q2).1
 rintro u w' ⟨e2,k1,k2,k3,k4,k5,k6⟩
 have hfn:∀ k c,f k=some c→k<n0∨nA n0 R≤k:=fun k c q=>by
  rcases Nat.lt_or_ge k n0 with g|g
  ·exact .inl g
  ·rcases Nat.lt_or_ge k (nA n0 R) with g2|g2
   ·exact absurd (hfr k g g2) (hfe k c q)
   ·exact .inr g2
 -- what the frame keeps
 have hfA:∀ k,f k≠none→(mA m0 (R1++A)).get k=none:=fun k hk=>by
  cases q:(mA m0 (R1++A)).get k with
  | none=>rfl
  | some c =>
   exfalso
   cases qf:f k with
   | none=>exact hk qf
   | some c' =>
    rcases C.mem A (r::Z) (by rw [hR]) hA1 q with ⟨x,hx,g1,g2,g3,g4⟩|q'
    ·have hxR:x∈R:=by rw [hR];simp [hx]
     obtain ⟨X',Y',hRx⟩:=List.append_of_mem hxR
     obtain ⟨q1,_⟩:=(C.fact _ _ _ hRx).stp.c3 g1 g2
     have:=C.ends hRx
     have:=hfn k c' qf
     omega
    ·have:=H.dj k (by simp [q'])
     exact hk this
 have key:∀ k c,(mA m0 (R1++A)).get k=none→μ k=some c→r.m'.get k=none∧uni r.m' (fun k=>if ((mA m0 (R1++A)).get k).isSome then none else μ k) k=some c:=fun k c q1 q2=>by
  have q3:(fun k=>if ((mA m0 (R1++A)).get k).isSome then none else μ k) k=some c:=by simp [q1,q2]
  refine ⟨?_,uni_f k6 q3⟩
  cases q:r.m'.get k with
  | none=>rfl
  | some d=>have:=k6 k (by simp [q]);rw [q3] at this;cases this
 refine hK _ _ _ _ _ _ (H.put C hds hr (S1:=R1++A++[r]) (S2:=Z) k1 (fun k hk=>k2 k (by rw [← F.nx];omega)) k3 k4 k5 (by rw [hR];simp) (.inr ⟨_,r,rfl,hw,hc,(hset _).2 (.inl rfl)⟩) (fun x hx g1 g2 hS=>?_) (fun k c q=>?_) (fun y hy g1 g2 hS c hcc=>?_) (fun k hk=>?_) (fun k g1 g2=>?_))
 ·have hxR:x∈R:=by rw [hR];simp [hx]
  rcases (hset _).1 hS with q|q
  ·obtain ⟨Z1,Z2,rfl⟩:=List.append_of_mem hx
   have hRx:R=(R1++A++r::Z1)++x::Z2:=by rw [hR];simp
   exact (C.fact _ _ _ hRx).new r (by simp) q.symm
  ·exact H.r2 x (by rw [hA];simp [hx]) g1 g2 q
 ·rw [mA_snoc] at q
  unfold uni at q
  cases q2:r.m'.get k with
  | some d=>simp [q2] at q;subst q;exact uni_m q2
  | none =>
   simp [q2] at q
   exact (key k c (hfA k (by rw [q];simp)) (H.mu1 k c (uni_f H.dj q))).2
 ·have hyR:y∈R:=by rw [hR];simp [hy]
  obtain ⟨Z1,Z2,rfl⟩:=List.append_of_mem hy
  have hRy:R=(R1++A++r::Z1)++y::Z2:=by rw [hR];simp
  have hlt:=C.lt hRy (y:=r) (by simp)
  have hyr:y.i≠r.i:=fun q=>(C.fact _ _ _ hRy).new r (by simp) q.symm
  have hSy:Sm ls y.i:=by
   rcases (hset _).1 hS with q|q
   ·exact absurd q hyr
   ·exact q
  have hμ:=H.mu2 y (by rw [hA];simp) g1 g2 hSy c hcc
  have hend:=C.ends hRy
  obtain ⟨q1,_⟩:=(C.fact _ _ _ hRy).stp.c3 g1 g2
  have hup:=C.up hR
  have:(mA m0 (R1++A)).get y.nx=none:=by
   cases q:(mA m0 (R1++A)).get y.nx with
   | none=>rfl
   | some d =>
    have h3:=(hmA _ _ q).2
    have h4:=F.nx
    omega
  exact (key y.nx c this hμ).2
 ·rw [mA_snoc] at hk
  cases q:f k with
  | none=>rfl
  | some c =>
   have h3:=(key k c (hfA k (by rw [q];simp)) (H.mu1 k c (uni_f H.dj q))).1
   rw [h3] at hk;simp at hk
 ·rw [nA_snoc] at g1
  rw [mA_snoc]
  cases q:r.m'.get k with
  | none=>rfl
  | some d =>
   exfalso
   obtain ⟨x,hx,g3,g4⟩:=C.cover (k:=k) Z (R1++A++[r]) (by rw [hR];simp) (by rw [nA_snoc];exact g1) g2
   obtain ⟨Z1,Z2,rfl⟩:=List.append_of_mem hx
   have hRx:R=(R1++A++r::Z1)++x::Z2:=by rw [hR];simp
   have hxR:x∈R:=by rw [hRx];simp
   have hen:=C.ends hRx
   have hup:=C.up hR
   have hnone:(mA m0 (R1++A)).get k=none:=by
    cases q5:(mA m0 (R1++A)).get k with
    | none=>rfl
    | some d' =>
     have h3:=(hmA _ _ q5).2
     have h4:=F.nx
     omega
   have hke:e2 k=e' k:=k2 k (by right;exact g1)
   obtain ⟨y,hy,_⟩:=k4.ok k d (uni_m q)
   by_cases hS:Sm ls x.i
   ·have Fx:=C.fact _ _ _ hRx
    cases hxw:x.w
    ·have:=(Fx.stp.no hxw).2.2;omega
    ·rcases Nat.lt_or_ge (clsF x.o.op) 3 with q6|q6
     ·have q6:clsF x.o.op=0∨clsF x.o.op=1∨clsF x.o.op=2:=by omega
      rcases q6 with q6|q6|q6
      ·have:=(Fx.stp.c0 hxw q6).2.1;omega
      ·have:=(Fx.stp.c1 hxw q6).2.1;omega
      ·exact H.r2 x (by rw [hA];simp) hxw q6 hS
     ·obtain ⟨q1,_,b,_,_,hm'⟩:=Fx.stp.c3 hxw q6
      have hk:x.nx=k:=by omega
      have hμ:=H.mu2 x (by rw [hA];simp) hxw q6 hS b (by rw [hm',Zl,if_pos rfl])
      rw [hk] at hμ
      have:=(key k b hnone hμ).1
      rw [this] at q
      cases q
   ·rw [hke,H.und x hxR hS k g3 g4] at hy
    cases hy
end
end NE
namespace NE
section
variable {P:Program} {call:CallF} {s:SS} {all:List Oper} {an:List Nat} {m0:SM} {n0:Nat} {R:List Rec} {B:Nat} {e:Env} {f:Mu} {a0:Act} {w0:World}
variable {ls:Array Bool} {a:Act} {w:World} {e':Env} {μ:Mu} {R1 R2:List Rec}
theorem Run.step (C:Ctx P call s all an m0 n0 R) (H:Run P call s all m0 n0 R B e f a0 w0 ls a w e' μ R1 R2) (hds:∀ o∈all,∀ d,o.dst=some d→d<a0.tmps.size) (hg:Glob e) (hfe:∀ k c,f k=some c→e k≠none) (hfr:Fr e n0 (nA n0 R)) {ops:Array Oper} (hops:ops.toList=all) {r:Rec} (hr:Rdy ls R r) {K:Act→World→Prop} {Q:Exit→Act→World→Prop}
    (hK:∀ a' w' e2 μ' S1 S2,Run P call s all m0 n0 R B e f a0 w0 (ls.setIfInBounds r.i true) a' w' e2 μ' S1 S2→K a' w'):wpOp P ops Q r.i K a w:=by
 have hl:=H.look C hds hr
 obtain ⟨X,Y,hR⟩:=List.append_of_mem hr.mem
 have F:=C.fact _ _ _ hR
 have hget:ops[r.i]?=some r.o:=by rw [← Array.getElem?_toList,hops];exact F.o
 have hw:=F.stp.want
 rw [wantF_congr (l':=restL (seesOf all r.o) r.l s) (s':=.e) (fun j c o t q1 q2 q3=>by
  rw [restL_get,if_pos]
  unfold seesOf;rw [app_eq]
  refine List.mem_append_right _ ?_
  rw [q1,Zh,nth_eq,q2,Zh,q3,Zh]
  simp)] at hw
 rw [← hops] at hw
 have hwant:=wantF_is (by rw [hops];exact hl) hw
 unfold wpOp
 simp only [hget]
 rw [hwant]
 cases hrw:r.w
 ·rw [if_neg (by simp)]
  obtain ⟨h1,_,_⟩:=F.stp.no hrw
  exact hK _ _ _ _ _ _ (H.keep C hds hr (fun h=>by rw [hrw] at h;cases h) (EE.refl _) (fun _ _=>rfl) (by rw [h1];exact .v _) H.inv (Below.refl _ _))
 ·rw [if_pos rfl]
  left
  rcases Nat.lt_or_ge (clsF r.o.op) 3 with q|q
  ·have q:clsF r.o.op=0∨clsF r.o.op=1∨clsF r.o.op=2:=by omega
   rcases q with q|q|q
   ·exact H.pure C hds hg hr hrw q hK
   ·have hrm:=hr.mem
    rw [H.spl] at hrm
    rcases List.mem_append.1 hrm with g|g
    ·rcases H.r1 with q1|⟨R0,t,q1,q2,q3,q4⟩
     ·rw [q1] at g;simp at g
     ·rw [q1] at g
      have hRt:R=R0++t::R2:=by rw [H.spl,q1];simp
      rcases List.mem_append.1 g with g|g
      ·have Ft:=C.fact _ _ _ hRt
       have hna:t.an.testBit r.i=false:=by
        cases z:t.an.testBit r.i with
        | false=>rfl
        | true=>exact absurd (H.clo t (by rw [hRt];simp) q4 _ z) hr.no
       obtain ⟨m1,hm1⟩:=Ft.rp q3 q2 r g hrw q hna
       refine H.read C hds hg hr hrw q (M:=t.m') (fun k c h _=>H.mu1 k c (uni_m ?_)) hm1 hK
       rw [q1,mA_snoc];exact h
      ·simp at g;subst g;exact absurd q4 hr.no
    ·obtain ⟨A,Z,hA⟩:=List.append_of_mem g
     have hR':R=(R1++A)++r::Z:=by rw [H.spl,hA];simp
     have F':=C.fact _ _ _ hR'
     have hA1:∀ x∈A,x.w=true→clsF x.o.op≠2:=fun x hx g1 g2=>H.r2 x (by rw [hA];simp [hx]) g1 g2 (hr.an _ (F'.rd q x (by simp [hx]) g2))
     obtain ⟨_,_,m1,h⟩:=F'.stp.c1 hrw q
     rw [F'.m] at h
     exact H.read C hds hg hr hrw q (fun k c h he=>(H.memA C hA hA1 h (.inr he)).1) h hK
   ·exact H.turn C hds hg hfe hfr hr hrw q hK
  ·exact H.make C hds hg hr hrw q hK
theorem Run.done (C:Ctx P call s all an m0 n0 R) (H:Run P call s all m0 n0 R B e f a0 w0 ls a w e' μ R1 R2) (hds:∀ o∈all,∀ d,o.dst=some d→d<a0.tmps.size) (hfe:∀ k c,f k=some c→e k≠none) (hfr:Fr e n0 (nA n0 R)) (hS:∀ r∈R,Sm ls r.i):Lft B e f n0 w0 (lA R) s (mA m0 R) (nA n0 R) a0 a w e':=by
 have hA1:∀ x∈R2,x.w=true→clsF x.o.op≠2:=fun x hx g1 g2=>H.r2 x hx g1 g2 (hS x (by rw [H.spl];simp [hx]))
 have hfn:∀ k c,f k=some c→k<n0∨nA n0 R≤k:=fun k c q=>by
  rcases Nat.lt_or_ge k n0 with g|g
  ·exact .inl g
  ·rcases Nat.lt_or_ge k (nA n0 R) with g2|g2
   ·exact absurd (hfr k g g2) (hfe k c q)
   ·exact .inr g2
 refine ⟨H.ee,H.out,fun t v hv=>?_,H.inv.weak fun k c q=>⟨c,?_,.inl rfl⟩,H.bel,fun k hk=>?_,H.defs,H.asz⟩
 ·rcases lA_get R hv with ⟨x,hx,hd,rfl⟩|⟨hno,hsv⟩
  ·obtain ⟨X,Y,hR⟩:=List.append_of_mem hx
   exact ⟨by rw [H.asz];exact hds x.o (List.mem_of_getElem? (C.fact _ _ _ hR).o) t hd,H.s1 x hx (hS x hx) t hd⟩
  ·exact H.s2 t v hsv fun x hx _=>hno x hx
 ·unfold uni at q
  cases q2:(mA m0 R).get k with
  | some d =>
   simp [q2] at q
   subst q
   rw [H.spl] at q2
   exact (H.memA C (A:=R2) (Z:=[]) (by simp) hA1 q2 (.inl fun x hx _ _=>hS x (by rw [H.spl];simp [hx]))).1
  | none =>
   simp [q2] at q
   exact H.mu1 k c (uni_f H.dj q)
 ·cases q:f k with
  | none=>rfl
  | some c =>
   exfalso
   obtain ⟨d,hd⟩:=Option.isSome_iff_exists.1 hk
   rw [H.spl] at hd
   rcases C.mem R2 [] (by rw [H.spl];simp) hA1 hd with ⟨x,hx,g1,g2,g3,g4⟩|q'
   ·have hxR:x∈R:=by rw [H.spl];simp [hx]
    obtain ⟨X',Y',hRx⟩:=List.append_of_mem hxR
    obtain ⟨q1,_⟩:=(C.fact _ _ _ hRx).stp.c3 g1 g2
    have:=C.ends hRx
    have:=hfn k c q
    omega
   ·have:=H.dj k (by simp [q'])
    rw [this] at q;cases q
theorem filter_lt {α:Type} {p q:α→Bool} {x:α}:∀ {l:List α},(∀ y,q y=true→p y=true)→x∈l→p x=true→q x=false→(l.filter q).length<(l.filter p).length
 | [],_,h,_,_=>by simp at h
 | y::l,hqp,h,h1,h2=>by
  have hle:(l.filter q).length≤(l.filter p).length:=by
   clear h
   induction l with
   | nil=>simp
   | cons z l ih =>
    rw [List.filter_cons,List.filter_cons]
    cases hq:q z
    ·cases hp:p z <;> simp <;> omega
    ·rw [hqp z hq];simpa using ih
  rcases List.mem_cons.1 h with rfl|h
  ·rw [List.filter_cons,List.filter_cons,h1,h2];simp;omega
  ·have:=filter_lt hqp h h1 h2
   rw [List.filter_cons,List.filter_cons]
   cases hq:q y
   ·cases hp:p y <;> simp <;> omega
   ·rw [hqp y hq];simpa using this
noncomputable def cnt (ls:Array Bool) (R:List Rec):Nat:=(R.filter fun r => !(ls[r.i]? == some true)).length
theorem ready_is {ops:Array Oper} {i:Nat}:i∈Region.ready .any ops ls↔i<ops.size∧ls.getD i true=false∧∃ o,ops[i]?=some o∧∀ j∈bindsOf o,ls.getD j false=true:=by
 unfold Region.ready
 rw [List.mem_filter,List.mem_range]
 constructor
 ·rintro ⟨h1,h2⟩
  rw [Bool.and_eq_true] at h2
  obtain ⟨h2,h3⟩:=h2
  refine ⟨h1,by simpa using h2,ops[i],by simp [h1],fun j hj=>?_⟩
  have h3:(ops[i].after.all fun e => !Region.binds .any e || ls.getD e.on false)=true:=by simpa [h1] using h3
  unfold bindsOf at hj
  obtain ⟨ed,h4,rfl⟩:=List.mem_map.1 hj
  obtain ⟨h4,h5⟩:=List.mem_filter.1 h4
  have:=Array.all_eq_true'.1 h3 ed (by simpa using h4)
  rw [h5] at this
  simpa using this
 ·rintro ⟨h1,h2,o,h3,h4⟩
  refine ⟨h1,?_⟩
  rw [Bool.and_eq_true]
  refine ⟨by simp [h2],?_⟩
  rw [h3]
  show o.after.all _=true
  rw [Array.all_eq_true']
  intro ed hed
  cases hb:Region.binds .any ed
  ·rfl
  ·have:=h4 ed.on (by unfold bindsOf;exact List.mem_map.2 ⟨ed,List.mem_filter.2 ⟨by simpa using hed,hb⟩,rfl⟩)
   simp [this]
theorem sm_getD (d:Bool) {j:Nat} (h:j<ls.size):ls.getD j d=true↔Sm ls j:=by
 unfold Sm
 simp [Array.getD,h]
theorem any_s (C:Ctx P call s all an m0 n0 R) (hds:∀ o∈all,∀ d,o.dst=some d→d<a0.tmps.size) (hg:Glob e) (hfe:∀ k c,f k=some c→e k≠none) (hfr:Fr e n0 (nA n0 R)) {ops:Array Oper} (hops:ops.toList=all) {Q:Exit→Act→World→Prop}
    (hQ:∀ a' w' e2,Lft B e f n0 w0 (lA R) s (mA m0 R) (nA n0 R) a0 a' w' e2→Q .normal a' w'):∀ (fuel:Nat) (ls:Array Bool) (a:Act) (w:World) (e':Env) (μ:Mu) (R1 R2:List Rec),Run P call s all m0 n0 R B e f a0 w0 ls a w e' μ R1 R2→cnt ls R≤fuel→wpAny P .any ops Q fuel ls a w:=by
 intro fuel
 have hsz:ops.size=all.length:=by rw [← hops];simp
 have getR:∀ i,i<ops.size→∃ r∈R,r.i=i∧ops[i]?=some r.o:=fun i hi=>by
  obtain ⟨r,hr,hri⟩:=C.cov i (by omega)
  obtain ⟨X,Y,hR⟩:=List.append_of_mem hr
  refine ⟨r,hr,hri,?_⟩
  rw [← Array.getElem?_toList,hops,← hri]
  exact (C.fact _ _ _ hR).o
 have lists:∀ (ls:Array Bool) (a:Act) (w:World) (e':Env) (μ:Mu) (R1 R2:List Rec),Run P call s all m0 n0 R B e f a0 w0 ls a w e' μ R1 R2→∀ i∈Region.ready .any ops ls,∃ r,r.i=i∧Rdy ls R r:=by
  intro ls a w e' μ R1 R2 H i hi
  obtain ⟨h1,h2,o,h3,h4⟩:=ready_is.1 hi
  obtain ⟨r,hr,hri,hro⟩:=getR i h1
  rw [h3] at hro
  cases hro
  subst hri
  have hlt:r.i<ls.size:=by rw [H.size];omega
  refine ⟨r,rfl,H.rdy C hr (fun q=>?_) fun j hj=>?_⟩
  ·rw [(sm_getD true hlt).2 q] at h2;cases h2
  ·have h5:=h4 j hj
   by_cases q:j<ls.size
   ·exact (sm_getD false q).1 h5
   ·simp [Array.getD,q] at h5
 have full:∀ (ls:Array Bool) (a:Act) (w:World) (e':Env) (μ:Mu) (R1 R2:List Rec),Run P call s all m0 n0 R B e f a0 w0 ls a w e' μ R1 R2→Region.ready .any ops ls=[]→∀ r∈R,Sm ls r.i:=by
  intro ls a w e' μ R1 R2 H hnil
  have key:∀ (n:Nat) (X Y:List Rec),X.length≤n→R=X++Y→∀ x∈X,Sm ls x.i:=by
   intro n
   induction n with
   | zero=>intro X Y hn _ x hx;rw [List.eq_nil_of_length_eq_zero (by omega:X.length=0)] at hx;simp at hx
   | succ n ih =>
    intro X Y hn hR x hx
    obtain ⟨X1,X2,rfl⟩:=List.append_of_mem hx
    have hRx:R=X1++x::(X2++Y):=by rw [hR];simp
    have F:=C.fact _ _ _ hRx
    have hb:=ih X1 _ (by simp at hn;omega) hRx
    apply Classical.byContradiction
    intro hno
    have hlt:x.i<ls.size:=by rw [H.size];exact (List.getElem?_eq_some_iff.1 F.o).1
    have:x.i∈Region.ready .any ops ls:=by
     refine ready_is.2 ⟨by rw [hsz,← H.size];exact hlt,?_,x.o,by rw [← Array.getElem?_toList,hops];exact F.o,fun j hj=>?_⟩
     ·cases q:ls.getD x.i true with
      | false=>rfl
      | true=>exact absurd ((sm_getD true hlt).1 q) hno
     ·obtain ⟨y,hy,rfl⟩:=F.binds j hj
      have hS:=hb y hy
      exact (sm_getD false (Array.getElem?_eq_some_iff.1 hS).1).2 hS
    rw [hnil] at this
    simp at this
  intro r hr
  exact key R.length R [] (Nat.le_refl _) (by simp) r hr
 induction fuel with
 | zero =>
  intro ls a w e' μ R1 R2 H hcnt
  have hall:∀ r∈R,Sm ls r.i:=by
   intro r hr
   apply Classical.byContradiction
   intro hno
   have:r∈R.filter fun r => !(ls[r.i]? == some true):=by
    refine List.mem_filter.2 ⟨hr,?_⟩
    unfold Sm at hno
    simpa using hno
   have h0:R.filter (fun r => !(ls[r.i]? == some true))=[]:=List.eq_nil_of_length_eq_zero (by unfold cnt at hcnt;omega)
   rw [h0] at this
   simp at this
  refine ⟨?_,hQ a w e' (H.done C hds hfe hfr hall)⟩
  cases hrd:Region.ready .any ops ls with
  | nil=>rfl
  | cons i l =>
   obtain ⟨r,_,hr⟩:=lists ls a w e' μ R1 R2 H i (by rw [hrd];simp)
   exact absurd (hall r hr.mem) hr.no
 | succ fuel ih =>
  intro ls a w e' μ R1 R2 H hcnt
  refine ⟨fun hnil=>hQ a w e' (H.done C hds hfe hfr (full ls a w e' μ R1 R2 H hnil)),fun i hi=>?_⟩
  obtain ⟨r,rfl,hr⟩:=lists ls a w e' μ R1 R2 H i hi
  refine H.step C hds hg hfe hfr hops hr fun a' w' e2 μ' S1 S2 H'=>ih _ a' w' e2 μ' S1 S2 H' ?_
  have hset:=Sm.set hr.lt
  have hno:=hr.no
  have:cnt (ls.setIfInBounds r.i true) R<cnt ls R:=by
   unfold cnt
   refine filter_lt (x:=r) (fun y hy=>?_) hr.mem ?_ ?_
   ·have hy:¬ Sm (ls.setIfInBounds r.i true) y.i:=by unfold Sm;simpa using hy
    have:¬ Sm ls y.i:=fun q=>hy ((hset _).2 (.inr q))
    unfold Sm at this
    simpa using this
   ·unfold Sm at hno
    simpa using hno
   ·have:Sm (ls.setIfInBounds r.i true) r.i:=(hset _).2 (.inl rfl)
    unfold Sm at this
    simp only [this]
    rfl
  omega
theorem dOk_is {n:Nat}:∀ {os:List Oper},dOk n os=true→∀ o∈os,∀ d,o.dst=some d→d<n
 | [],_,o,ho,_,_=>by simp at ho
 | x::os,h,o,ho,d,hd=>by
  obtain ⟨h1,h2⟩:=Za (show bcd (orec x.dst true fun d=>Nat.blt d n) (dOk n os) false=true from h)
  rcases List.mem_cons.1 ho with rfl|ho
  ·rw [hd,Zh] at h1;exact Nat.le_of_ble_eq_true h1
  ·exact dOk_is h2 o ho d hd
theorem draw_s (hm:P.follows .mixedOrders=true) (hc:CallS P call) {ops:Array Oper} {id n:Nat} {s:SS} {m M:SM} {nx N:Nat} {L:Lc} {ord:List Nat} (hd:drF ord P call ops.toList (ancF ops.toList []) .nil .nil s m nx=.ok L M N) (hok:drOk n ops.toList ord=true) :
    nx≤N∧(∀ t,(Lc.get L .e t).isSome→∃ o∈ops.toList,o.dst=some t)∧∀ (B:Nat) (e:Env) (f:Mu) (a:Act) (w:World),Glob e→Disj m f→Fr e nx N→NInv B e (uni m f) w→Look e .nil s a→a.tmps.size=n→∀ Q:Exit→Act→World→Prop,(∀ a' w' e',Lft B e f nx w L s M N a a' w' e'→Q .normal a' w')→(Code.region id ops true).wp P Q a w:=by
 obtain ⟨k1,k2⟩:=Za (show bcd (dOk n ops.toList) (bcd (uniF ops.toList) (ordOk ops.toList (ancF ops.toList []) ord 0 0 0) false) false=true from hok)
 obtain ⟨k2,k3⟩:=Za k2
 obtain ⟨R,r1,rfl,rfl,rfl,r5⟩:=dr_recs (an:=ancF ops.toList []) (m0:=m) (n0:=nx) ord [] .nil 0 0 0 L M N hd k3 (by simp) (by simp) (by simp) (by simp)
 simp only [List.nil_append] at r1 r5 ⊢
 have C:Ctx P call s ops.toList (ancF ops.toList []) m nx R:=⟨hc,rfl,fun X r Y h=>r1 X r Y h,r5,k2⟩
 refine ⟨C.upA [] R [] (by simp),fun t ht=>?_,fun B e f a w hg hdj hfr hi hl hsz Q hQ=>?_⟩
 ·obtain ⟨v,hv⟩:=Option.isSome_iff_exists.1 ht
  rcases lA_get R hv with ⟨x,hx,hd,_⟩|⟨_,h⟩
  ·obtain ⟨X,Y,hR⟩:=List.append_of_mem hx
   exact ⟨x.o,List.mem_of_getElem? (C.fact _ _ _ hR).o,hd⟩
  ·rw [get_e] at h;cases h
 have hds:∀ o∈ops.toList,∀ d,o.dst=some d→d<a.tmps.size:=by rw [hsz];exact dOk_is k1
 have hfe:∀ k c,f k=some c→e k≠none:=fun k c q=>by
  obtain ⟨x,hx,_⟩:=hi.ok k c (uni_f hdj q)
  rw [hx];simp
 have hno:∀ j,¬ Sm (Array.replicate ops.size false) j:=fun j h=>by
  unfold Sm at h
  rw [Array.getElem?_replicate] at h
  split at h <;> simp at h
 have hi':=NInv.drew hi
 refine wp_region_any hm (any_s C hds hg hfe hfr rfl (a0:=a) (w0:=w) hQ ops.size _ a w.drew e (uni m f) [] R ?_ ?_)
 ·have hmd:∀ k,nx≤k→k<nA nx R→m.get k=none:=fun k h1 h2=>by
   cases q:m.get k with
   | none=>rfl
   | some c =>
    obtain ⟨x,hx,_⟩:=hi.ok k c (uni_m q)
    rw [hfr k h1 h2] at hx
    cases hx
  have hund:∀ r∈R,∀ k,r.nx≤k→k<r.nx'→e k=none:=fun r hr k h1 h2=>by
   obtain ⟨X,Y,hR⟩:=List.append_of_mem hr
   have:=C.ends hR
   exact hfr k (by omega) (by omega)
  exact ⟨by simp,fun r _ h=>absurd h (hno _),EE.refl e,fun _ _=>rfl,fun r hr _=>hund r hr,fun r _ h=>absurd h (hno _),fun t v hv _=>hl t v (by rw [lc_nil];exact hv),rfl,.inl rfl,fun r _ _ _=>hno _,hi',fun k c h=>h,fun y _ _ _ h=>absurd h (hno _),hdj,hmd,(Below.refl _ _).drew,rfl,rfl⟩
 ·unfold cnt
  refine Nat.le_trans (List.length_filter_le _ _) ?_
  have hnd:(R.map (·.i)).Nodup:=by
   have:∀ (Y X:List Rec),R=X++Y→(Y.map (·.i)).Nodup:=by
    intro Y
    induction Y with
    | nil=>intro X _;simp
    | cons r Y ih =>
     intro X hR
     rw [List.map_cons,List.nodup_cons]
     refine ⟨fun h=>?_,ih (X++[r]) (by rw [hR];simp)⟩
     obtain ⟨y,hy,hyi⟩:=List.mem_map.1 h
     obtain ⟨Y1,Y2,rfl⟩:=List.append_of_mem hy
     exact (C.fact (X++r::Y1) y Y2 (by rw [hR];simp)).new r (by simp) hyi.symm
   exact this R [] rfl
  have hsub:∀ i∈R.map (·.i),i∈List.range ops.size:=by
   intro i hi
   obtain ⟨r,hr,rfl⟩:=List.mem_map.1 hi
   obtain ⟨X,Y,hR⟩:=List.append_of_mem hr
   have:=(List.getElem?_eq_some_iff.1 (C.fact _ _ _ hR).o).1
   simpa using this
  have:=hnd.length_le_of_subset hsub
  simpa using this
end
end NE
namespace NE
section
variable {P:Program} {call:CallF}
theorem lc_split (s:SS) (t:Nat):∀ l:Lc,Lc.get l s t=(Lc.get l .e t).or (s.get t)
 | .nil=>by show s.get t=((Tr.e:SS).get t).or (s.get t);rw [get_e];simp
 | .cons k v l=>by
  rw [lc_cons,lc_cons]
  by_cases q:k=t
  ·simp [q]
  ·rw [if_neg q,if_neg q];exact lc_split s t l
theorem flush_get {L:Lc} {t:Nat}:∀ (ks:List Nat) (s:SS),(flush ks L s).get t=if t∈ks∧(Lc.get L .e t).isSome then Lc.get L .e t else s.get t
 | [],s=>by simp [flush]
 | k::ks,s=>by
  show (flush ks L (Option.rec s (fun v=>Tr.put s k v) (Lc.get L .e k))).get t=_
  rw [flush_get ks]
  by_cases e1:t=k
  ·subst e1
   cases q:Lc.get L .e t with
   | none=>simp
   | some v =>
    simp only [Option.isSome_some,and_true,List.mem_cons,true_or,if_true]
    by_cases e2:t∈ks
    ·rw [if_pos e2]
    ·rw [if_neg e2,Zl,if_pos rfl]
  ·have:(Option.rec s (fun v=>Tr.put s k v) (Lc.get L .e k):SS).get t=s.get t:=by
    cases q:Lc.get L .e k with
    | none=>rfl
    | some v=>show (s.put k v).get t=_;rw [Zl,if_neg (fun h=>e1 h.symm)]
   rw [this]
   simp [e1]
theorem kOk_is {mk:Nat} {ks:List Nat} {os:List Oper} (h:kOk mk ks os=true):(∀ k∈ks,mk.testBit k=true)∧∀ o∈os,∀ d,o.dst=some d→mk.testBit d=true→d∈ks:=by
 obtain ⟨h1,h2⟩:=Za (show bcd (List.rec true (fun k _ ih=>bcd (Nat.testBit mk k) ih false) ks) (List.rec true (fun o _ ih=>bcd (orec o.dst true fun d=>bcd (Nat.testBit mk d) (List.rec false (fun k _ q=>bcd (Nat.beq k d) true q) ks) true) ih false) os) false=true from h)
 constructor
 ·clear h2 h
  induction ks with
  | nil=>intro k hk;simp at hk
  | cons x ks ih =>
   obtain ⟨k1,k2⟩:=Za (show bcd (Nat.testBit mk x) (List.rec true (fun k _ ih=>bcd (Nat.testBit mk k) ih false) ks) false=true from h1)
   intro k hk
   rcases List.mem_cons.1 hk with rfl|hk
   ·exact k1
   ·exact ih k2 k hk
 ·clear h1 h
  have inks:∀ (d:Nat) (ks:List Nat),(List.rec false (fun k _ q=>bcd (Nat.beq k d) true q) ks:Bool)=true→d∈ks:=by
   intro d ks
   induction ks with
   | nil=>intro h;cases h
   | cons x ks ih =>
    intro h
    have h:bcd (Nat.beq x d) true (List.rec false (fun k _ q=>bcd (Nat.beq k d) true q) ks)=true:=h
    cases q:Nat.beq x d
    ·rw [q] at h;exact List.mem_cons_of_mem _ (ih h)
    ·rw [Nat.eq_of_beq_eq_true q];simp
  induction os with
  | nil=>intro o ho;simp at ho
  | cons x os ih =>
   obtain ⟨k1,k2⟩:=Za (show bcd (orec x.dst true fun d=>bcd (Nat.testBit mk d) (List.rec false (fun k _ q=>bcd (Nat.beq k d) true q) ks) true) (List.rec true (fun o _ ih=>bcd (orec o.dst true fun d=>bcd (Nat.testBit mk d) (List.rec false (fun k _ q=>bcd (Nat.beq k d) true q) ks) true) ih false) os) false=true from h2)
   intro o ho d hd hb
   rcases List.mem_cons.1 ho with rfl|ho
   ·rw [hd,Zh,hb] at k1
    exact inks d ks k1
   ·exact ih k2 o ho d hd hb
def Dom (kp:Nat) (s:SS):Prop:=∀ t,(s.get t).isSome→kp.testBit t=true
theorem fin_look {kp:Nat} {ks:List Nat} {os:List Oper} {L:Lc} {s:SS} {e:Env} {a:Act} (hk:kOk kp ks os=true) (hd:Dom kp s) (hL:∀ t,(Lc.get L .e t).isSome→∃ o∈os,o.dst=some t) (hl:Look e L s a):Look e .nil (flush ks L s) a∧Dom kp (flush ks L s):=by
 obtain ⟨k1,k2⟩:=kOk_is hk
 constructor
 ·intro t v hv
  rw [lc_nil,flush_get] at hv
  refine hl t v ?_
  rw [lc_split]
  by_cases q:t∈ks∧(Lc.get L .e t).isSome
  ·rw [if_pos q] at hv;rw [hv];rfl
  ·rw [if_neg q] at hv
   cases q2:Lc.get L .e t with
   | none=>rw [hv];rfl
   | some u =>
    exfalso
    obtain ⟨o,ho,hot⟩:=hL t (by rw [q2];rfl)
    exact q ⟨k2 o ho t hot (hd t (by rw [hv];rfl)),by rw [q2];rfl⟩
 ·intro t ht
  rw [flush_get] at ht
  by_cases q:t∈ks∧(Lc.get L .e t).isSome
  ·exact k1 t q.1
  ·rw [if_neg q] at ht;exact hd t ht
def One (P:Program) (call:CallF) (all:List Oper) (o:Oper) (l:Lc) (s:SS) (m:SM) (nx:Nat) (v:SV) (m1:SM) (n1:Nat):Prop :=
 (wantF all o.guard l s=some true∧opF o.op P call l s m nx=.ok v m1 n1)∨(wantF all o.guard l s=some false∧v=.v undef∧m1=m∧n1=nx)
theorem opsF_cons {os all:List Oper} {o:Oper} {l L:Lc} {s:SS} {m M:SM} {nx N:Nat} (h:opsF (o::os) P call all l s m nx=.ok L M N):∃ v m1 n1,One P call all o l s m nx v m1 n1∧opsF os P call all (setD l o.dst v) s m1 n1=.ok L M N:=by
 obtain ⟨d,op,ty,pos,af,g⟩:=o
 have h:Option.rec (AL.no [32]) (fun w=>bcd w (AR.rec (fun v m' nx'=>opsF os P call all (setD l d v) s m' nx') (fun e=>.no (len os::e)) (opF op P call l s m nx)) (opsF os P call all (setD l d (.v undef)) s m nx)) (wantF all g l s)=AL.ok L M N:=h
 cases q1:wantF all g l s with
 | none=>rw [q1] at h;exact absurd h (by simp)
 | some b =>
  rw [q1] at h
  cases b
  ·exact ⟨_,_,_,.inr ⟨q1,rfl,rfl,rfl⟩,h⟩
  ·have h:AR.rec (fun v m' nx'=>opsF os P call all (setD l d v) s m' nx') (fun e=>.no (len os::e)) (opF op P call l s m nx)=AL.ok L M N:=h
   cases q2:opF op P call l s m nx with
   | no e=>rw [q2] at h;exact absurd h (by simp)
   | ok v m1 nx1=>rw [q2] at h;exact ⟨v,m1,nx1,.inl ⟨q1,q2⟩,h⟩
theorem One.same {all:List Oper} {o:Oper} {l:Lc} {s:SS} {m m1 m2:SM} {nx n1 n2:Nat} {v v2:SV} (h:One P call all o l s m nx v m1 n1) (k:One P call all o l s m nx v2 m2 n2):v2=v∧m2=m1∧n2=n1:=by
 rcases h with ⟨h1,h2⟩|⟨h1,h2,h3,h4⟩ <;> rcases k with ⟨k1,k2⟩|⟨k1,k2,k3,k4⟩ <;> rw [h1] at k1 <;> first|(cases k1;done)|skip
 ·rw [h2] at k2;cases k2;exact ⟨rfl,rfl,rfl⟩
 ·exact ⟨k2.trans h2.symm,k3.trans h3.symm,k4.trans h4.symm⟩
theorem one_s (hc:CallS P call) {ops:Array Oper} {s:SS} {o:Oper} {l:Lc} {m m1:SM} {nx n1:Nat} {v:SV} (h:One P call ops.toList o l s m nx v m1 n1):nx≤n1∧∀ (B:Nat) (e:Env) (f:Mu) (a:Act) (w:World),Glob e→Disj m f→Fr e nx n1→NInv B e (uni m f) w→Look e l s a→(∀ d,o.dst=some d→d<a.tmps.size) →
    ∀ (i:Nat),ops[i]?=some o→∀ (Q:Exit→Act→World→Prop) (K:Act→World→Prop),(∀ a' w' e',Lft B e f nx w (setD l o.dst v) s m1 n1 a a' w' e'→K a' w')→wpOp P ops Q i K a w:=by
 rcases h with ⟨h1,h2⟩|⟨h1,rfl,rfl,rfl⟩
 ·obtain ⟨h3,h4⟩:=op_s hc h2
  refine ⟨h3,fun B e f a w hg hd hfr hi hl hds i hget Q K hK=>?_⟩
  have hw:=wantF_is hl h1
  unfold wpOp
  simp only [hget]
  rw [if_pos hw]
  refine .inl (h4 B e f a w hg hd hfr hi hl _ _ ?_)
  rintro u w1 ⟨e1,k1,k2,k3,k4,k5,k6⟩
  exact hK _ _ e1 ⟨k1,k2,(hl.mono k1).put hds k3,k4,k5,k6,put_defers _ _ _,put_tmps _ _ _⟩
 ·refine ⟨Nat.le_refl _,fun B e f a w hg hd hfr hi hl hds i hget Q K hK=>?_⟩
  have hw:=wantF_is hl h1
  unfold wpOp
  simp only [hget]
  rw [if_neg (by rw [hw];simp)]
  exact hK _ _ e ⟨EE.refl e,fun _ _=>rfl,hl.put hds (.v _),hi,Below.refl _ _,hd,put_defers _ _ _,put_tmps _ _ _⟩
def CdS (P:Program) (n:Nat) (c:Code) (s:SS) (m:SM) (nx:Nat) (x:Exit) (s':SS) (m':SM) (nx':Nat):Prop :=
 nx≤nx'∧∀ (B:Nat) (e:Env) (f:Mu) (a:Act) (w:World),Glob e→Disj m f→Fr e nx nx'→NInv B e (uni m f) w→Look e .nil s a→a.tmps.size=n→∀ Q:Exit→Act→World→Prop,(∀ a' w' e',Lft B e f nx w .nil s' m' nx' a a' w' e'→Q x a' w')→c.wp P Q a w
theorem any_next {ops:Array Oper} {Q:Exit→Act→World→Prop} {ls:Array Bool} {fuel:Nat} {a:Act} {w:World} {l:List Nat} (h:Region.ready .any ops ls=l) (hl:l≠[]) (hK:∀ i∈l,wpOp P ops Q i (wpAny P .any ops Q fuel (ls.setIfInBounds i true)) a w):wpAny P .any ops Q (fuel+1) ls a w :=
 ⟨fun q=>absurd (h.symm.trans q) hl,fun i hi=>hK i (h ▸ hi)⟩
theorem ready4 {o0 o1 o2 o3:Oper} {ls:Array Bool} (h0:bindsOf o0=[]) (h1:bindsOf o1=[0]) (h2:bindsOf o2=[0]) (h3:bindsOf o3=[0,0,1,2]):Region.ready .any #[o0,o1,o2,o3] ls =
    (bif !ls.getD 0 true then [0] else [])++(bif !ls.getD 1 true && ls.getD 0 false then [1] else [])++(bif !ls.getD 2 true && ls.getD 0 false then [2] else [])++(bif !ls.getD 3 true && ls.getD 0 false && ls.getD 1 false && ls.getD 2 false then [3] else []):=by
 have key:∀ o:Oper,(o.after.all fun e => !Region.binds .any e || ls.getD e.on false)=(bindsOf o).all fun j=>ls.getD j false:=by
  intro o
  unfold bindsOf
  rw [List.all_map,← Array.all_toList]
  generalize o.after.toList=l
  induction l with
  | nil=>rfl
  | cons x l ih =>
   rw [List.all_cons,List.filter_cons]
   cases hb:Region.binds .any x
   ·simp
   ·rw [if_pos rfl,List.all_cons,← ih];simp
 have key':∀ (i:Nat) (o:Oper),(#[o0,o1,o2,o3]:Array Oper)[i]?=some o→((((#[o0,o1,o2,o3]:Array Oper)[i]?).map (·.after.all fun e => !Region.binds .any e || ls.getD e.on false)).getD false)=(bindsOf o).all fun j=>ls.getD j false:=by
  intro i o h
  rw [h,← key]
  rfl
 have f4:∀ p:Nat→Bool,[0,1,2,3].filter p=(bif p 0 then [0] else [])++(bif p 1 then [1] else [])++(bif p 2 then [2] else [])++(bif p 3 then [3] else []):=by
  intro p
  cases h0:p 0 <;> cases h1:p 1 <;> cases h2:p 2 <;> cases h3:p 3 <;> simp [List.filter,h0,h1,h2,h3]
 have e:Region.ready .any #[o0,o1,o2,o3] ls=[0,1,2,3].filter fun i => !ls.getD i true && ((((#[o0,o1,o2,o3]:Array Oper)[i]?).map (·.after.all fun e => !Region.binds .any e || ls.getD e.on false)).getD false):=rfl
 rw [e,f4,key' 0 o0 rfl,key' 1 o1 rfl,key' 2 o2 rfl,key' 3 o3 rfl,h0,h1,h2,h3]
 simp only [List.all_cons,List.all_nil,Bool.and_true]
 generalize ls.getD 0 false=c0
 generalize ls.getD 1 false=c1
 generalize ls.getD 2 false=c2
 generalize ls.getD 0 true=b0
 generalize ls.getD 1 true=b1
 generalize ls.getD 2 true=b2
 generalize ls.getD 3 true=b3
 cases b0 <;> cases b1 <;> cases b2 <;> cases b3 <;> cases c0 <;> cases c1 <;> cases c2 <;> rfl
end
end NE
namespace NE
section
variable {P:Program} {call:CallF}
theorem stepL (hc:CallS P call) {ops:Array Oper} {s:SS} {B:Nat} {e e1:Env} {f:Mu} {nx n N:Nat} {w w1:World} {a a1:Act} {l:Lc} {m:SM} (hg:Glob e) (hfr:Fr e nx N) (hL:Lft B e f nx w l s m n a a1 w1 e1) (hn:nx≤n) {o:Oper} {v:SV} {m1:SM} {n1:Nat} (h:One P call ops.toList o l s m n v m1 n1) (hN:n1≤N) (hds:∀ d,o.dst=some d→d<a.tmps.size)
    {i:Nat} (hget:ops[i]?=some o) {Q:Exit→Act→World→Prop} {K:Act→World→Prop} (hK:∀ a' w' e',Lft B e f nx w (setD l o.dst v) s m1 n1 a a' w' e'→K a' w'):wpOp P ops Q i K a1 w1:=by
 obtain ⟨h1,h2⟩:=one_s hc h
 refine h2 B e1 f a1 w1 (hg.mono hL.ee) hL.disj ((hfr.left hN).right hn hL.out) hL.inv hL.look (fun d hd=>by rw [hL.size];exact hds d hd) i hget Q K fun a' w' e' hL'=>?_
 exact hK a' w' e' (hL.trans hL' hn h1)
theorem Lft.refl {B:Nat} {e:Env} {f:Mu} {nx:Nat} {w:World} {l:Lc} {s:SS} {m:SM} {a:Act} (hi:NInv B e (uni m f) w) (hd:Disj m f) (hl:Look e l s a):Lft B e f nx w l s m nx a a w e :=
 ⟨EE.refl e,fun _ _=>rfl,hl,hi,Below.refl _ _,hd,rfl,rfl⟩
theorem bds_is {o:Oper} {l:List Nat} (h:bds o l=true):bindsOf o=l:=(leq_iff _ _).1 h
theorem chS_is {o0 o1 o2 o3:Oper} {r:Nat} (h:chS o0 o1 o2 o3=some r):o3.dst=some r∧bindsOf o0=[]∧bindsOf o1=[0]∧bindsOf o2=[0]∧bindsOf o3=[0,0,1,2]:=by
 unfold chS at h
 split at h <;> first|(cases h;done)|skip
 obtain ⟨r',h1,h2⟩:=Zc h
 obtain ⟨h3,h4⟩:=Zg h2
 cases h4
 obtain ⟨k1,k2⟩:=Za h3
 obtain ⟨k2,k3⟩:=Za k2
 obtain ⟨k3,k4⟩:=Za k3
 exact ⟨h1,bds_is k1,bds_is k2,bds_is k3,bds_is k4⟩
theorem isB_is {l:Lc} {r:Nat} (h:isB l r=true):∃ x,Lc.get l .e r=some (.b x):=by
 unfold isB at h
 obtain ⟨v,h1,h2⟩:=orec_true h
 cases v <;> first|(exfalso;simp [SV.boo] at h2;done)|exact ⟨_,h1⟩
theorem ch_look {kp r:Nat} {os:List Oper} {L:Lc} {s:SS} {e:Env} {a:Act} {x:Bool} (hk:kOk kp [r] os=true) (hd:Dom kp s) (hL:∀ t,(Lc.get L .e t).isSome→∃ o∈os,o.dst=some t) (hl:Look e L s a) (hx:Lc.get L .e r=some (.b x)):Look e .nil (s.put r .ub) a∧Dom kp (s.put r .ub):=by
 obtain ⟨h1,h2⟩:=fin_look hk hd hL hl
 constructor
 ·intro t v hv
  rw [lc_nil,Zl] at hv
  by_cases q:r=t
  ·subst q
   rw [if_pos rfl] at hv
   cases hv
   have:=h1 r (.b x) (by rw [lc_nil,flush_get,if_pos ⟨by simp,by rw [hx];rfl⟩];exact hx)
   obtain ⟨k1,k2⟩:=this
   refine ⟨k1,?_⟩
   generalize a.tmps.getD r undef=u at k2
   cases k2
   exact .ub x
  ·rw [if_neg q] at hv
   refine h1 t v ?_
   rw [lc_nil,flush_get,if_neg (by simp;intro h;exact absurd h.symm q)]
   exact hv
 ·intro t ht
  rw [Zl] at ht
  by_cases q:r=t
  ·subst q;exact (kOk_is hk).1 r (by simp)
  ·rw [if_neg q] at ht;exact hd t ht
theorem chR_s (hm:P.follows .mixedOrders=true) (hc:CallS P call) {ops:Array Oper} {id n kp r:Nat} {os2:List Oper} {s s':SS} {m m':SM} {nx nx':Nat} {x:Ex} (h:chF ops.toList=some (r,os2)) (h2:chR P call ops.toList os2 r s m nx=.ok x s' m' nx') (hk:kOk kp [r] ops.toList=true) (hd:Dom kp s) (hok:dOk n ops.toList=true) :
    x=.nor∧Dom kp s'∧CdS P n (.region id ops true) s m nx .normal s' m' nx':=by
 unfold chF at h
 split at h
 rotate_left
 ·cases h
 rename_i o0 o1 o2 o3 hops
 obtain ⟨r',h3,h4⟩:=Zc h
 cases h4
 obtain ⟨hr,b0,b1,b2,b3⟩:=chS_is h3
 have hds:=dOk_is hok
 have hops':ops=#[o0,o1,o2,o3]:=Array.ext' hops
 subst hops'
 rw [hops] at h2 hds hk
 have h2:(AL.rec (fun l1 _ n1=>AL.rec (fun l2 _ n2=>bcd (bcd (Nat.beq n1 n2) (bcd (isB l1 r) (isB l2 r) false) false) (.ok .nor (s.put r .ub) m n1) (.no [86])) (fun e=>.no e) (opsF [o0,o2,o1,o3] P call [o0,o1,o2,o3] .nil s .e nx)) (fun e=>.no e) (opsF [o0,o1,o2,o3] P call [o0,o1,o2,o3] .nil s .e nx):AS)=.ok x s' m' nx':=h2
 cases q1:opsF [o0,o1,o2,o3] P call [o0,o1,o2,o3] .nil s .e nx with
 | no _=>rw [q1] at h2;exact absurd h2 (by simp)
 | ok L1 M1 N1 =>
 rw [q1] at h2
 cases q2:opsF [o0,o2,o1,o3] P call [o0,o1,o2,o3] .nil s .e nx with
 | no _=>rw [q2] at h2;exact absurd h2 (by simp)
 | ok L2 M2 N2 =>
 rw [q2] at h2
 have h2:bcd (bcd (Nat.beq N1 N2) (bcd (isB L1 r) (isB L2 r) false) false) (AS.ok .nor (s.put r .ub) m N1) (.no [86])=.ok x s' m' nx':=h2
 cases q3:bcd (Nat.beq N1 N2) (bcd (isB L1 r) (isB L2 r) false) false with
 | false=>rw [q3] at h2;exact absurd (show AS.no [86]=.ok x s' m' nx' from h2) (by simp)
 | true =>
 rw [q3] at h2
 have h2:AS.ok .nor (s.put r .ub) m N1=.ok x s' m' nx':=h2
 cases h2
 obtain ⟨q4,q5⟩:=Za q3
 obtain ⟨q5,q6⟩:=Za q5
 have:=Nat.eq_of_beq_eq_true q4
 subst this
 obtain ⟨x1,g5⟩:=isB_is q5
 obtain ⟨x2,g6⟩:=isB_is q6
 have hL1:∀ t,(Lc.get L1 .e t).isSome→∃ o∈[o0,o1,o2,o3],o.dst=some t:=fun t ht=>by
  rcases opsF_dom _ _ _ _ _ _ _ _ _ q1 t ht with k|k
  ·simp [lc_nil,get_e] at k
  ·exact k
 have hL2:∀ t,(Lc.get L2 .e t).isSome→∃ o∈[o0,o1,o2,o3],o.dst=some t:=fun t ht=>by
  rcases opsF_dom _ _ _ _ _ _ _ _ _ q2 t ht with k|⟨o,k1,k2⟩
  ·simp [lc_nil,get_e] at k
  ·exact ⟨o,by simp at k1 ⊢;rcases k1 with k|k|k|k <;> simp [k],k2⟩
 have hD:Dom kp (s.put r .ub):=by
  intro t ht
  rw [Zl] at ht
  by_cases q:r=t
  ·subst q;exact (kOk_is hk).1 r (by simp)
  ·rw [if_neg q] at ht;exact hd t ht
 -- both ways, one by one
 obtain ⟨v0,m0,n0,s0,q1a⟩:=opsF_cons q1
 obtain ⟨v0',m0',n0',t0,q2a⟩:=opsF_cons q2
 obtain ⟨rfl,rfl,rfl⟩:=s0.same t0
 obtain ⟨v1,m1,n1,s1,q1b⟩:=opsF_cons q1a
 obtain ⟨v2,m2,n2,s2,q1c⟩:=opsF_cons q1b
 obtain ⟨v3,m3,n3,s3,q1d⟩:=opsF_cons q1c
 obtain ⟨u2,j2,k2,t2,q2b⟩:=opsF_cons q2a
 obtain ⟨u1,j1,k1,t1,q2c⟩:=opsF_cons q2b
 obtain ⟨u3,j3,k3,t3,q2d⟩:=opsF_cons q2c
 have q1e:AL.ok _ m3 n3=.ok L1 M1 _:=q1d
 simp only [AL.ok.injEq] at q1e
 obtain ⟨rfl,rfl,rfl⟩:=q1e
 have q2e:AL.ok _ j3 k3=.ok L2 M2 _:=q2d
 simp only [AL.ok.injEq] at q2e
 obtain ⟨rfl,rfl,rfl⟩:=q2e
 rw [← hops] at s0 s1 s2 s3 t1 t2 t3
 have z0:=(one_s hc s0).1
 have z1:=(one_s hc s1).1
 have z2:=(one_s hc s2).1
 have z3:=(one_s hc s3).1
 have y1:=(one_s hc t1).1
 have y2:=(one_s hc t2).1
 have y3:=(one_s hc t3).1
 refine ⟨rfl,hD,by omega,fun B e f a w hg hdj hfr hi hl hsz Q hQ=>wp_region_any hm ?_⟩
 rw [← hsz] at hds
 have hdsz:∀ o∈[o0,o1,o2,o3],∀ d,o.dst=some d→d<a.tmps.size:=hds
 -- the end
 have fin:∀ {L:Lc} {M:SM} {y:Bool} {a':Act} {w':World} {e':Env},Lft B e (uni m f) nx w.drew L s M k3 a a' w' e'→(∀ t,(Lc.get L .e t).isSome→∃ o∈[o0,o1,o2,o3],o.dst=some t)→Lc.get L .e r=some (.b y)→Q .normal a' w':=by
  intro L M y a' w' e' hL hL2 hy
  refine hQ a' w' e' ⟨hL.ee,hL.out,(ch_look hk hd hL2 hL.look hy).1,hL.inv.weak fun k c q=>⟨c,uni_f hL.disj q,.inl rfl⟩,(Below.refl _ _).drew.trans hL.bel,hdj,hL.defs,hL.size⟩
 have L0:Lft B e (uni m f) nx w.drew .nil s .e nx a a w.drew e:=Lft.refl (by rw [uni_e];exact NInv.drew hi) (disj_e _) hl
 show wpAny P .any _ Q 4 #[false,false,false,false] a w.drew
 refine any_next (l:=[0]) (by rw [ready4 b0 b1 b2 b3];rfl) (by simp) fun i hi=>?_
 simp only [List.mem_singleton] at hi
 subst hi
 refine stepL hc hg hfr L0 (Nat.le_refl _) s0 (by omega) (hdsz o0 (by simp)) rfl fun a1 w1 e1 K1=>?_
 show wpAny P .any _ Q 3 #[true,false,false,false] a1 w1
 refine any_next (l:=[1,2]) (by rw [ready4 b0 b1 b2 b3];rfl) (by simp) fun i hi=>?_
 rcases List.mem_cons.1 hi with rfl|hi
 ·refine stepL hc hg hfr K1 z0 s1 (by omega) (hdsz o1 (by simp)) rfl fun a2 w2 e2 K2=>?_
  show wpAny P .any _ Q 2 #[true,true,false,false] a2 w2
  refine any_next (l:=[2]) (by rw [ready4 b0 b1 b2 b3];rfl) (by simp) fun i hi=>?_
  simp only [List.mem_singleton] at hi
  subst hi
  refine stepL hc hg hfr K2 (by omega) s2 (by omega) (hdsz o2 (by simp)) rfl fun a3 w3 e3 K3=>?_
  show wpAny P .any _ Q 1 #[true,true,true,false] a3 w3
  refine any_next (l:=[3]) (by rw [ready4 b0 b1 b2 b3];rfl) (by simp) fun i hi=>?_
  simp only [List.mem_singleton] at hi
  subst hi
  refine stepL hc hg hfr K3 (by omega) s3 (by omega) (hdsz o3 (by simp)) rfl fun a4 w4 e4 K4=>?_
  exact ⟨by show Region.ready .any _ #[true,true,true,true]=[];rw [ready4 b0 b1 b2 b3];rfl,fin K4 hL1 g5⟩
 ·simp only [List.mem_singleton] at hi
  subst hi
  refine stepL hc hg hfr K1 z0 t2 (by omega) (hdsz o2 (by simp)) rfl fun a2 w2 e2 K2=>?_
  show wpAny P .any _ Q 2 #[true,false,true,false] a2 w2
  refine any_next (l:=[1]) (by rw [ready4 b0 b1 b2 b3];rfl) (by simp) fun i hi=>?_
  simp only [List.mem_singleton] at hi
  subst hi
  refine stepL hc hg hfr K2 (by omega) t1 (by omega) (hdsz o1 (by simp)) rfl fun a3 w3 e3 K3=>?_
  show wpAny P .any _ Q 1 #[true,true,true,false] a3 w3
  refine any_next (l:=[3]) (by rw [ready4 b0 b1 b2 b3];rfl) (by simp) fun i hi=>?_
  simp only [List.mem_singleton] at hi
  subst hi
  refine stepL hc hg hfr K3 (by omega) t3 (by omega) (hdsz o3 (by simp)) rfl fun a4 w4 e4 K4=>?_
  exact ⟨by show Region.ready .any _ #[true,true,true,true]=[];rw [ready4 b0 b1 b2 b3];rfl,fin K4 hL2 g6⟩
end
end NE
namespace NE
section
variable {P:Program} {call:CallF}
theorem asbcd_ok {b:Bool} {y:AS} {c:List Nat} {x:Ex} {s:SS} {m:SM} {nx:Nat} (h:bcd b y (.no c)=.ok x s m nx):b=true∧y=.ok x s m nx:=by
 cases b
 ·exact absurd (show AS.no c=.ok x s m nx from h) (by simp)
 ·exact ⟨rfl,h⟩
theorem fin_is {ks:List Nat} {s s':SS} {r:AL} {x:Ex} {m:SM} {nx:Nat} (h:fin ks s r=.ok x s' m nx):∃ L,r=.ok L m nx∧x=.nor∧s'=flush ks L s:=by
 cases r with
 | no e=>exact absurd (show AS.no e=.ok x s' m nx from h) (by simp)
 | ok L M N =>
  have h:AS.ok .nor (flush ks L s) M N=.ok x s' m nx:=h
  cases h
  exact ⟨L,rfl,rfl,rfl⟩
theorem fin_same {ks:List Nat} {os:List Oper} {L:Lc} {s:SS} (hL:∀ t,(Lc.get L .e t).isSome→∃ o∈os,o.dst=some t) (t:Nat) (h:(flush ks L s).get t≠s.get t):∃ o∈os,o.dst=some t:=by
 rw [flush_get] at h
 by_cases q:t∈ks∧(Lc.get L .e t).isSome
 ·exact hL t q.2
 ·rw [if_neg q] at h;exact absurd rfl h
theorem reg_s (hm:P.follows .mixedOrders=true) (hc:CallS P call) {id n:Nat} {ops:Array Oper} {dr:Bool} {h:Hint} {s s':SS} {m m':SM} {nx nx':Nat} {x:Ex} (hr:regF id ops dr P call n h s m nx=.ok x s' m' nx') (hd:Dom h.kp s) :
    x=.nor∧Dom h.kp s'∧(∀ t,s'.get t≠s.get t→∃ o∈ops.toList,o.dst=some t)∧CdS P n (.region id ops dr) s m nx .normal s' m' nx':=by
 have hr:bcd (kOk h.kp (hOf h id).1 ops.toList) (bcd (dOk n ops.toList) (bcd dr
  (orec (chF ops.toList) (bcd (drOk n ops.toList (hOf h id).2) (fin (hOf h id).1 s (drF (hOf h id).2 P call ops.toList (ancF ops.toList []) .nil .nil s m nx)) (.no [80,id]))
   fun r=>bcd (leq (hOf h id).1 [r.1]) (chR P call ops.toList r.2 r.1 s m nx) (.no [82,id])) (fin (hOf h id).1 s (opsF ops.toList P call ops.toList .nil s m nx))) (.no [79])) (.no [81,id])=AS.ok x s' m' nx':=hr
 obtain ⟨hk,hr⟩:=asbcd_ok hr
 obtain ⟨hok,hr⟩:=asbcd_ok hr
 cases dr
 ·obtain ⟨L,h1,rfl,rfl⟩:=fin_is (show fin (hOf h id).1 s (opsF ops.toList P call ops.toList .nil s m nx)=AS.ok x s' m' nx' from hr)
  have hL:∀ t,(Lc.get L .e t).isSome→∃ o∈ops.toList,o.dst=some t:=fun t ht=>by
   rcases opsF_dom _ _ _ _ _ _ _ _ _ h1 t ht with k|k
   ·simp [lc_nil,get_e] at k
   ·exact k
  obtain ⟨k1,k2⟩:=seq_s hc ops.toList 0 .nil m nx L m' nx' (by simp) h1
  refine ⟨rfl,?_,fin_same hL,k1,fun B e f a w hg hdj hfr hi hl hsz Q hQ=>wp_region ?_⟩
  ·intro t ht
   rw [flush_get] at ht
   by_cases q:t∈(hOf h id).1∧(Lc.get L .e t).isSome
   ·exact (kOk_is hk).1 t q.1
   ·rw [if_neg q] at ht;exact hd t ht
  ·have:=k2 B e f a w hg hdj hfr hi hl (by rw [hsz];exact dOk_is hok) Q (fun a' w' e' hL'=>hQ a' w' e' ⟨hL'.ee,hL'.out,(fin_look hk hd hL hL'.look).1,hL'.inv,hL'.bel,hL'.disj,hL'.defs,hL'.size⟩)
   rw [List.range_eq_range']
   simpa using this
 ·have hr:(orec (chF ops.toList) (bcd (drOk n ops.toList (hOf h id).2) (fin (hOf h id).1 s (drF (hOf h id).2 P call ops.toList (ancF ops.toList []) .nil .nil s m nx)) (.no [80,id]))
   fun r=>bcd (leq (hOf h id).1 [r.1]) (chR P call ops.toList r.2 r.1 s m nx) (.no [82,id]))=AS.ok x s' m' nx':=hr
  cases q:chF ops.toList with
  | none =>
   rw [q,orec_none] at hr
   obtain ⟨h1,hr⟩:=asbcd_ok hr
   obtain ⟨L,h2,rfl,rfl⟩:=fin_is hr
   obtain ⟨k1,hL,k2⟩:=draw_s (id:=id) hm hc h2 h1
   refine ⟨rfl,?_,fin_same hL,k1,fun B e f a w hg hdj hfr hi hl hsz Q hQ=>?_⟩
   ·intro t ht
    rw [flush_get] at ht
    by_cases q:t∈(hOf h id).1∧(Lc.get L .e t).isSome
    ·exact (kOk_is hk).1 t q.1
    ·rw [if_neg q] at ht;exact hd t ht
   ·exact k2 B e f a w hg hdj hfr hi hl hsz Q (fun a' w' e' hL'=>hQ a' w' e' ⟨hL'.ee,hL'.out,(fin_look hk hd hL hL'.look).1,hL'.inv,hL'.bel,hL'.disj,hL'.defs,hL'.size⟩)
  | some r =>
   obtain ⟨r,os2⟩:=r
   rw [q,Zh] at hr
   obtain ⟨h1,hr⟩:=asbcd_ok hr
   rw [(leq_iff _ _).1 h1] at hk
   have hs':s'=s.put r .ub:=by
    unfold chR at hr
    cases q1:opsF ops.toList P call ops.toList .nil s .e nx with
    | no _=>rw [q1] at hr;exact absurd hr (by simp)
    | ok L1 M1 N1 =>
     rw [q1] at hr
     cases q2:opsF os2 P call ops.toList .nil s .e nx with
     | no _=>rw [q2] at hr;exact absurd hr (by simp)
     | ok L2 M2 N2 =>
      rw [q2] at hr
      obtain ⟨_,hr⟩:=asbcd_ok (show bcd (bcd (Nat.beq N1 N2) (bcd (isB L1 r) (isB L2 r) false) false) (AS.ok .nor (s.put r .ub) m N1) (.no [86])=.ok x s' m' nx' from hr)
      cases hr
      rfl
   obtain ⟨k1,k2,k3⟩:=chR_s (id:=id) hm hc q hr hk hd hok
   refine ⟨k1,k2,fun t ht=>?_,k3⟩
   rw [hs',Zl] at ht
   by_cases e1:r=t
   ·subst e1
    unfold chF at q
    split at q
    rotate_left
    ·cases q
    rename_i o0 o1 o2 o3 hops
    obtain ⟨r',h3,h4⟩:=Zc q
    cases h4
    rw [hops]
    exact ⟨o3,by simp,(chS_is h3).1⟩
   ·rw [if_neg e1] at ht;exact absurd rfl ht
theorem rows_eq:∀ x y:Tr (List SV),rowsEq x y=true→x=y
 | .e,.e,_=>rfl
 | .e,.n _ _ _,h=>by cases h
 | .n _ _ _,.e,h=>by cases h
 | .n v l r,.n v' l' r',h=>by
  have h:bcd (Option.rec (Option.rec true (fun _=>false) v') (fun a=>Option.rec false (fun c=>SV.eqbs a c) v') v) (bcd (rowsEq l l') (rowsEq r r') false) false=true:=h
  obtain ⟨h1,h2⟩:=Za h
  obtain ⟨h2,h3⟩:=Za h2
  rw [rows_eq _ _ h2,rows_eq _ _ h3]
  cases v <;> cases v' <;> first|rfl|(cases h1;done)|skip
  rw [eqbs_eq _ _ h1]
theorem keq2:∀ a b:List (List Nat),kEq a b=true→a=b
 | [],[],_=>rfl
 | [],_::_,h=>by simp [kEq] at h
 | _::_,[],h=>by simp [kEq] at h
 | x::l,y::r,h=>by
  simp only [kEq] at h
  obtain ⟨h1,h2⟩:=Za h
  rw [(leq_iff _ _).1 h1,keq2 _ _ h2]
theorem pairs_eq:∀ x y:List (List (List Nat) × SV),pairsEq x y=true→x=y
 | [],[],_=>rfl
 | [],_::_,h=>by simp [pairsEq] at h
 | _::_,[],h=>by simp [pairsEq] at h
 |(a,x)::l,(c,y)::r,h=>by
  simp only [pairsEq] at h
  obtain ⟨h1,h2⟩:=Za h
  obtain ⟨h2,h3⟩:=Za h2
  rw [keq2 _ _ h1,eqb_eq _ _ h2,pairs_eq _ _ h3]
theorem sb_eq {x y:SB} (h:SB.eqb x y=true):x=y:=by
 cases x <;> cases y <;> simp only [SB.eqb] at h <;> first|(cases h;done)|skip
 ·obtain ⟨h1,h2⟩:=Za h
  obtain ⟨h2,h3⟩:=Za h2
  obtain ⟨h3,h4⟩:=Za h3
  obtain ⟨h4,h5⟩:=Za h4
  rw [beq2_eq] at h4
  rw [Nat.eq_of_beq_eq_true h1,rows_eq _ _ h2,Nat.eq_of_beq_eq_true h3,eq_of_beq h4,(leq_iff _ _).1 h5]
 ·rw [pairs_eq _ _ h]
theorem meet_get {m1 m2:SM} {k:Nat} {b:SB}:∀ (ks:List Nat) (m:SM),(meetM m1 m2 ks m).get k=some b→(k∈ks∧m1.get k=some b∧m2.get k=some b)∨(k∉ks∧m.get k=some b)
 | [],m,h=>.inr ⟨by simp,h⟩
 | k0::ks,m,h=>by
  have h:(meetM m1 m2 ks (orec (m1.get k0) (Tr.del m k0) fun a=>orec (m2.get k0) (Tr.del m k0) fun c=>bcd (SB.eqb a c) (Tr.put m k0 a) (Tr.del m k0))).get k=some b:=h
  rcases meet_get ks _ h with ⟨h1,h2⟩|⟨h1,h2⟩
  ·exact .inl ⟨by simp [h1],h2⟩
  ·have hdel:(m.del k0).get k=some b→(k∈k0::ks∧m1.get k=some b∧m2.get k=some b)∨(k∉k0::ks∧m.get k=some b):=by
    intro q
    rw [del_get] at q
    by_cases e1:k0=k
    ·rw [if_pos e1] at q;cases q
    ·rw [if_neg e1] at q
     exact .inr ⟨by simp [h1];exact fun q=>e1 q.symm,q⟩
   cases q1:m1.get k0 with
   | none=>rw [q1,orec_none] at h2;exact hdel h2
   | some a =>
    rw [q1,Zh] at h2
    cases q2:m2.get k0 with
    | none=>rw [q2,orec_none] at h2;exact hdel h2
    | some c =>
     rw [q2,Zh] at h2
     cases q3:SB.eqb a c
     ·rw [q3] at h2;exact hdel h2
     ·rw [q3] at h2
      have h2:(m.put k0 a).get k=some b:=h2
      rw [Zl] at h2
      by_cases e1:k0=k
      ·rw [if_pos e1] at h2
       cases h2
       subst e1
       have:=sb_eq q3
       subst this
       exact .inl ⟨by simp,q1,q2⟩
      ·rw [if_neg e1] at h2
       exact .inr ⟨by simp [h1];exact fun q=>e1 q.symm,h2⟩
theorem only_get {m:SM} {k:Nat} {b:SB}:∀ ks:List Nat,(onlyM m ks).get k=some b→k∈ks∧m.get k=some b
 | [],h=>by
  have h:(Tr.e:SM).get k=some b:=h
  rw [get_e] at h;cases h
 | k0::ks,h=>by
  have h:(orec (m.get k0) (onlyM m ks) fun b=>Tr.put (onlyM m ks) k0 b).get k=some b:=h
  cases q:m.get k0 with
  | none =>
   rw [q,orec_none] at h
   obtain ⟨h1,h2⟩:=only_get ks h
   exact ⟨by simp [h1],h2⟩
  | some b0 =>
   rw [q,Zh,Zl] at h
   by_cases e1:k0=k
   ·rw [if_pos e1] at h
    cases h
    exact ⟨by simp [e1],e1 ▸ q⟩
   ·rw [if_neg e1] at h
    obtain ⟨h1,h2⟩:=only_get ks h
    exact ⟨by simp [h1],h2⟩
theorem keep_get {s:SS} {t:Nat}:∀ js:List Nat,(keepS js s).get t=if t∈js then s.get t else none
 | []=>by show (Tr.e:SS).get t=_;rw [get_e];simp
 | k::js=>by
  show (orec (s.get k) (keepS js s) fun v=>Tr.put (keepS js s) k v).get t=_
  cases q:s.get k with
  | none =>
   rw [orec_none,keep_get js]
   by_cases e1:t=k
   ·subst e1;simp [q]
   ·simp [e1]
  | some v =>
   rw [Zh,Zl,keep_get js]
   by_cases e1:t=k
   ·subst e1;simp [q]
   ·rw [if_neg (fun h=>e1 h.symm)];simp [e1]
theorem meet_s {n:Nat} {c:Code} {js ks:List Nat} {s s1:SS} {m m1:SM} {nx N:Nat} {lst:List Nat} (hks:∀ k∈ks,k∈lst) (hs:∀ t∈js,s1.get t=s.get t) (M:SM) (hM:∀ k b,M.get k=some b→(k∈lst∧m1.get k=some b)∨(k∉lst∧m.get k=some b))
    (h:CdS P n c s (onlyM m ks) nx .normal s1 m1 N):CdS P n c s m nx .normal (keepS js s) M N:=by
 obtain ⟨h1,h2⟩:=h
 refine ⟨h1,fun B e f a w hg hd hfr hi hl hsz Q hQ=>?_⟩
 have hu:uni (onlyM m ks) (fun k=>if ((onlyM m ks).get k).isSome then none else uni m f k)=uni m f:=by
  funext k
  show ((onlyM m ks).get k).or (if ((onlyM m ks).get k).isSome then none else uni m f k)=_
  cases q:(onlyM m ks).get k with
  | none=>simp
  | some b=>simp;exact (uni_m (only_get ks q).2).symm
 refine h2 B e (fun k=>if ((onlyM m ks).get k).isSome then none else uni m f k) a w hg (fun k hk=>by simp [hk]) hfr (by rw [hu];exact hi) hl hsz Q fun a' w' e' hL=>hQ a' w' e' ⟨hL.ee,hL.out,fun t v hv=>hL.look t v ?_,hL.inv.weak fun k b q=>⟨b,?_,.inl rfl⟩,hL.bel,fun k hk=>?_,hL.defs,hL.size⟩
 ·rw [lc_nil] at hv ⊢
  rw [keep_get] at hv
  by_cases q:t∈js
  ·rw [if_pos q] at hv
   rw [hs t q];exact hv
  ·rw [if_neg q] at hv;cases hv
 ·have keep:∀ k b,k∉ks→uni m f k=some b→uni m1 (fun k=>if ((onlyM m ks).get k).isSome then none else uni m f k) k=some b:=by
   intro k b hk q
   refine uni_f hL.disj ?_
   cases q2:(onlyM m ks).get k with
   | none=>simp;exact q
   | some c=>exact absurd (only_get ks q2).1 hk
  unfold uni at q
  cases q1:M.get k with
  | some b' =>
   simp [q1] at q
   subst q
   rcases hM k b' q1 with ⟨_,g⟩|⟨g1,g2⟩
   ·exact uni_m g
   ·exact keep k b' (fun h=>g1 (hks k h)) (uni_m g2)
  | none =>
   simp [q1] at q
   have hmk:m.get k=none:=by
    cases z:m.get k with
    | none=>rfl
    | some c=>have:=hd k (by rw [z];rfl);rw [this] at q;cases q
   refine uni_f hL.disj ?_
   cases q2:(onlyM m ks).get k with
   | none=>simp [uni,hmk];exact q
   | some c=>have:=(only_get ks q2).2;rw [hmk] at this;cases this
 ·cases q:f k with
  | none=>rfl
  | some c =>
   exfalso
   obtain ⟨b,hb⟩:=Option.isSome_iff_exists.1 hk
   have hmk:m.get k=none:=by
    cases z:m.get k with
    | none=>rfl
    | some c'=>have:=hd k (by rw [z];rfl);rw [this] at q;cases q
   rcases hM k b hb with ⟨_,g⟩|⟨_,g⟩
   ·have:=hL.disj k (by rw [g];rfl)
    cases q2:(onlyM m ks).get k with
    | none=>simp [q2,uni,hmk,q] at this
    | some c=>have:=(only_get ks q2).2;rw [hmk] at this;cases this
   ·rw [hmk] at g;cases g
end
end NE
namespace NE
section
variable {P:Program} {call:CallF}
def LW (P:Program) (c:Code) (Q:Exit→Act→World→Prop):Nat→Act→World→Prop
 | 0,_,_=>False
 | n+1,a,w=>c.wp P (Exit.then (LW P c Q n) Q) a w
theorem least {p:Nat→Prop} (h:∃ n,p n):∃ m,p m∧∀ k,p k→m≤k:=by
 obtain ⟨n,hn⟩:=h
 induction n using Nat.strongRecOn with
 | _ n ih =>
  by_cases q:∃ k,k<n∧p k
  ·obtain ⟨k,h1,h2⟩:=q
   exact ih k h1 h2
  ·exact ⟨n,hn,fun k hk=>Nat.le_of_not_lt fun h=>q ⟨k,h,hk⟩⟩
theorem then_mono {K K':Act→World→Prop} {Q:Exit→Act→World→Prop} (h:∀ a w,K a w→K' a w) (e:Exit) (a:Act) (w:World) (k:Exit.then K Q e a w):Exit.then K' Q e a w:=by
 cases e with
 | normal=>exact h a w k
 | _=>exact k
open Classical in
theorem LW_wp {c:Code} {Q:Exit→Act→World→Prop} {n:Nat} {a:Act} {w:World} (h:LW P c Q n a w):(Code.loop c).wp P Q a w:=by
 let μ:Act→World→Nat:=fun a w=>if h:∃ n,LW P c Q n a w then Classical.choose (least h) else 0
 have hμ:∀ a w n,LW P c Q n a w→LW P c Q (μ a w) a w∧μ a w≤n:=by
  intro a w n h
  have hex:∃ n,LW P c Q n a w:=⟨n,h⟩
  have e:μ a w=Classical.choose (least hex):=dif_pos hex
  rw [e]
  obtain ⟨h1,h2⟩:=Classical.choose_spec (least hex)
  exact ⟨h1,h2 n h⟩
 refine wp_loop (fun a w=>∃ n,LW P c Q n a w) μ ⟨n,h⟩ fun a w hI=>?_
 obtain ⟨k,hk⟩:=hI
 obtain ⟨h1,h2⟩:=hμ a w k hk
 generalize hm:μ a w=mm at h1 h2
 cases mm with
 | zero=>exact h1.elim
 | succ j =>
  refine wp_mono h1 fun e a' w' q=>then_mono (fun a' w' q=>?_) e a' w' q
  exact ⟨⟨j,q⟩,Nat.lt_succ_of_le (hμ a' w' j q).2⟩
def exOf:Ex→Exit
 | .nor=>.normal
 | .exit id=>.exit id
 | .ret=>.ret
def CdL (P:Program) (n:Nat) (c:Code) (N:Nat) (s:SS) (m:SM) (nx:Nat) (x:Exit) (s':SS) (m':SM) (nx':Nat):Prop :=
 nx≤nx'∧∀ (B:Nat) (e:Env) (f:Mu) (a:Act) (w:World),Glob e→Disj m f→Fr e nx nx'→NInv B e (uni m f) w→Look e .nil s a→a.tmps.size=n→∀ Q:Exit→Act→World→Prop,(∀ a' w' e',Lft B e f nx w .nil s' m' nx' a a' w' e'→Q x a' w')→LW P c Q N a w
theorem CdS.of {n:Nat} {c:Code} {s:SS} {m:SM} {nx:Nat} {x:Exit} (h:∀ (a:Act) (w:World) (Q:Exit→Act→World→Prop),Q x a w→c.wp P Q a w):CdS P n c s m nx x s m nx :=
 ⟨Nat.le_refl _,fun _ e _ a w _ hd _ hi hl _ Q hQ=>h a w Q (hQ a w e (Lft.refl hi hd hl))⟩
theorem noW_reg {js:List Nat} {id:Nat} {ops:Array Oper} {dr:Bool} (h:noW js (.region id ops dr)=true):∀ o∈ops.toList,∀ d,o.dst=some d→d∉js:=by
 have h:(List.rec true (fun o _ ih=>bcd (orec o.dst true fun d=>List.rec true (fun k _ q=>bcd (Nat.beq k d) false q) js) ih false) ops.toList:Bool)=true:=h
 have inn:∀ (d:Nat) (l:List Nat),(List.rec true (fun k _ q=>bcd (Nat.beq k d) false q) l:Bool)=true→d∉l:=by
  intro d l
  induction l with
  | nil=>intro _;simp
  | cons x l ih =>
   intro h
   have h:bcd (Nat.beq x d) false (List.rec true (fun k _ q=>bcd (Nat.beq k d) false q) l)=true:=h
   cases q:Nat.beq x d
   ·rw [q] at h
    have:=ih h
    simp only [List.mem_cons,not_or]
    refine ⟨fun e=>?_,this⟩
    rw [e,show Nat.beq x x=true from Nat.beq_refl x] at q
    cases q
   ·rw [q] at h;cases h
 generalize ops.toList=os at h
 induction os with
 | nil=>intro o ho;simp at ho
 | cons x os ih =>
  obtain ⟨k1,k2⟩:=Za (show bcd (orec x.dst true fun d=>List.rec true (fun k _ q=>bcd (Nat.beq k d) false q) js) (List.rec true (fun o _ ih=>bcd (orec o.dst true fun d=>List.rec true (fun k _ q=>bcd (Nat.beq k d) false q) js) ih false) os) false=true from h)
  intro o ho d hd
  rcases List.mem_cons.1 ho with rfl|ho
  ·rw [hd,Zh] at k1
   exact inn d js k1
  ·exact ih k2 o ho d hd
theorem as_is {r:AS} {f:Ex→SS→SM→Nat→AS} {x:Ex} {s:SS} {m:SM} {nx:Nat} (h:(AS.rec f (fun e=>.no e) r:AS)=.ok x s m nx):∃ x1 s1 m1 n1,r=.ok x1 s1 m1 n1∧f x1 s1 m1 n1=.ok x s m nx:=by
 cases r with
 | no e=>exact absurd (show AS.no e=.ok x s m nx from h) (by simp)
 | ok x1 s1 m1 n1=>exact ⟨x1,s1,m1,n1,rfl,h⟩
theorem asorec_ok {α:Type} {x:Option α} {f:α→AS} {c:List Nat} {y:Ex} {s:SS} {m:SM} {nx:Nat} (h:orec x (.no c) f=.ok y s m nx):∃ z,x=some z∧f z=.ok y s m nx:=by
 cases x with
 | none=>exact absurd h (by simp [orec_none])
 | some z=>exact ⟨z,rfl,h⟩
structure CSay (P:Program) (n:Nat) (h:Hint) (c:Code) (s:SS) (m:SM) (nx:Nat) (x:Ex) (s':SS) (m':SM) (nx':Nat):Prop where
 dom:Dom h.kp s'
 now:noW h.js c=true→∀ t∈h.js,s'.get t=s.get t
 cd:CdS P n c s m nx (exOf x) s' m' nx'
 lp:∀ b,c=.loop b→∃ N,CdL P n b N s m nx (exOf x) s' m' nx'
theorem evC_s (hm:P.follows .mixedOrders=true) (hc:CallS P call):∀ (fuel:Nat) (c:Code) (n:Nat) (h:Hint) (s:SS) (m:SM) (nx:Nat) (x:Ex) (s':SS) (m':SM) (nx':Nat),evC fuel c P call n h s m nx=.ok x s' m' nx'→Dom h.kp s→CSay P n h c s m nx x s' m' nx':=by
 intro fuel
 induction fuel with
 | zero=>intro c n h s m nx x s' m' nx' hh;exact absurd (show AS.no [33]=.ok x s' m' nx' from hh) (by simp)
 | succ fuel ih =>
  intro c n h s m nx x s' m' nx' hh hd
  cases c with
  | skip =>
   have hh:AS.ok .nor s m nx=.ok x s' m' nx':=hh
   cases hh
   exact ⟨hd,fun _ _ _=>rfl,CdS.of fun a w Q q=>wp_skip q,fun b q=>by cases q⟩
  | region id ops dr =>
   have hh:regF id ops dr P call n h s m nx=.ok x s' m' nx':=hh
   obtain ⟨rfl,k1,k2,k3⟩:=reg_s hm hc hh hd
   refine ⟨k1,fun hw t ht=>?_,k3,fun b q=>by cases q⟩
   apply Classical.byContradiction
   intro hne
   obtain ⟨o,ho,hot⟩:=k2 t hne
   exact noW_reg hw o ho t hot ht
  | seq a b =>
   have hh:(AS.rec (fun e s' m' nx'=>Ex.rec (evC fuel b P call n h s' m' nx') (fun id=>.ok (.exit id) s' m' nx') (.ok .ret s' m' nx') e) (fun e=>.no e) (evC fuel a P call n h s m nx):AS)=.ok x s' m' nx':=hh
   obtain ⟨x1,s1,m1,n1,h1,h2⟩:=as_is hh
   obtain ⟨k1,k2,⟨k3,k4⟩,_⟩:=ih a n h s m nx x1 s1 m1 n1 h1 hd
   cases x1 with
   | nor =>
    have h2:evC fuel b P call n h s1 m1 n1=.ok x s' m' nx':=h2
    obtain ⟨j1,j2,⟨j3,j4⟩,_⟩:=ih b n h s1 m1 n1 x s' m' nx' h2 k1
    refine ⟨j1,fun hw t ht=>?_,⟨Nat.le_trans k3 j3,fun B e f a0 w hg hdj hfr hi hl hsz Q hQ=>wp_seq ?_⟩,fun b q=>by cases q⟩
    ·obtain ⟨w1,w2⟩:=Za (show bcd (noW h.js a) (noW h.js b) false=true from hw)
     rw [j2 w2 t ht,k2 w1 t ht]
    ·exact k4 B e f a0 w hg hdj (hfr.left j3) hi hl hsz _ fun a1 w1 e1 hL=>j4 B e1 f a1 w1 (hg.mono hL.ee) hL.disj (hfr.right k3 hL.out) hL.inv hL.look (hL.size.trans hsz) Q fun a2 w2 e2 hL2=>hQ a2 w2 e2 (hL.trans hL2 k3 j3)
   | exit id =>
    have h2:AS.ok (.exit id) s1 m1 n1=.ok x s' m' nx':=h2
    cases h2
    exact ⟨k1,fun hw t ht=>k2 (Za (show bcd (noW h.js a) (noW h.js b) false=true from hw)).1 t ht,⟨k3,fun B e f a0 w hg hdj hfr hi hl hsz Q hQ=>wp_seq (k4 B e f a0 w hg hdj hfr hi hl hsz _ hQ)⟩,fun b q=>by cases q⟩
   | ret =>
    have h2:AS.ok .ret s1 m1 n1=.ok x s' m' nx':=h2
    cases h2
    exact ⟨k1,fun hw t ht=>k2 (Za (show bcd (noW h.js a) (noW h.js b) false=true from hw)).1 t ht,⟨k3,fun B e f a0 w hg hdj hfr hi hl hsz Q hQ=>wp_seq (k4 B e f a0 w hg hdj hfr hi hl hsz _ hQ)⟩,fun b q=>by cases q⟩
  | cond y a b =>
   have hh:(orec (ev y .nil s) (.no [34]) fun v=>v.boo (fun q=>bcd q (evC fuel a P call n h s m nx) (evC fuel b P call n h s m nx)) (bcd (isUb v) (joinF (evC fuel) a b P call n h s m nx) (.no [49])))=AS.ok x s' m' nx':=hh
   obtain ⟨v,h1,h2⟩:=asorec_ok hh
   have hcase:(∃ q,v=.b q∧bcd q (evC fuel a P call n h s m nx) (evC fuel b P call n h s m nx)=.ok x s' m' nx')∨(v=.ub∧joinF (evC fuel) a b P call n h s m nx=.ok x s' m' nx'):=by
    cases v <;> first|(exact .inl ⟨_,rfl,h2⟩)|(exact .inr ⟨rfl,h2⟩)|(exfalso;exact absurd (show AS.no [49]=.ok x s' m' nx' from h2) (by simp))
   rcases hcase with ⟨q,rfl,h3⟩|⟨rfl,h3⟩
   ·have key:∀ (z:Code),(z=if q then a else b)→evC fuel z P call n h s m nx=.ok x s' m' nx'→CSay P n h (.cond y a b) s m nx x s' m' nx':=by
     intro z hz hev
     obtain ⟨k1,k2,⟨k3,k4⟩,_⟩:=ih z n h s m nx x s' m' nx' hev hd
     refine ⟨k1,fun hw t ht=>k2 ?_ t ht,⟨k3,fun B e f a0 w hg hdj hfr hi hl hsz Q hQ=>?_⟩,fun b q=>by cases q⟩
     ·obtain ⟨w1,w2⟩:=Za (show bcd (noW h.js a) (noW h.js b) false=true from hw)
      cases q <;> simp at hz <;> rw [hz] <;> assumption
     ·have hv:=ev_rv hl hg h1
      generalize hev2:a0.eval y=u at hv
      cases hv
      exact wp_cond hev2 (by rw [← hz];exact k4 B e f a0 w hg hdj hfr hi hl hsz Q hQ)
    cases q
    ·exact key b rfl h3
    ·exact key a rfl h3
   ·obtain ⟨h4,h5⟩:=asbcd_ok (show bcd (bcd (noW h.js a) (noW h.js b) false) (meetF (waysF m s h.jp) m nx (keepS h.js s) (evC fuel a P call n h s (onlyM m (waysF m s h.jp)) nx) (evC fuel b P call n h s (onlyM m (waysF m s h.jp)) nx)) (.no [85])=.ok x s' m' nx' from h3)
    obtain ⟨w1,w2⟩:=Za h4
    generalize hA:evC fuel a P call n h s (onlyM m (waysF m s h.jp)) nx=rA at h5
    generalize hB:evC fuel b P call n h s (onlyM m (waysF m s h.jp)) nx=rB at h5
    have hdk:Dom h.kp (keepS h.js s):=by
     intro t ht
     rw [keep_get] at ht
     by_cases q:t∈h.js
     ·rw [if_pos q] at ht;exact hd t ht
     ·rw [if_neg q] at ht;cases ht
    obtain ⟨xa,sa,ma,na,rfl,h5⟩:=as_is (f:=fun e _ m1 n1=>AS.rec (fun e' _ m2 n2=>Ex.rec (Ex.rec (bcd (Nat.beq n1 n2) (.ok .nor (keepS h.js s) (meetM m1 m2 (app (waysF m s h.jp) (rangeF (Nat.sub n1 nx) nx)) m) n1) (.no [83])) (fun _=>.no [84]) (.no [84]) e') (fun _=>.no [84]) (.no [84]) e) (fun e=>.no e) rB) h5
    obtain ⟨xb,sb,mb,nb,rfl,h5⟩:=as_is (f:=fun e' _ m2 n2=>Ex.rec (Ex.rec (bcd (Nat.beq na n2) (.ok .nor (keepS h.js s) (meetM ma m2 (app (waysF m s h.jp) (rangeF (Nat.sub na nx) nx)) m) na) (.no [83])) (fun _=>.no [84]) (.no [84]) e') (fun _=>.no [84]) (.no [84]) xa) h5
    cases xa with
    | exit _=>exact absurd (show AS.no [84]=.ok x s' m' nx' from h5) (by simp)
    | ret=>exact absurd (show AS.no [84]=.ok x s' m' nx' from h5) (by simp)
    | nor =>
    cases xb with
    | exit _=>exact absurd (show AS.no [84]=.ok x s' m' nx' from h5) (by simp)
    | ret=>exact absurd (show AS.no [84]=.ok x s' m' nx' from h5) (by simp)
    | nor =>
    obtain ⟨h6,h7⟩:=asbcd_ok (show bcd (Nat.beq na nb) (.ok .nor (keepS h.js s) (meetM ma mb (app (waysF m s h.jp) (rangeF (Nat.sub na nx) nx)) m) na) (.no [83])=AS.ok x s' m' nx' from h5)
    have:=Nat.eq_of_beq_eq_true h6
    subst this
    cases h7
    obtain ⟨a1,a2,a3,_⟩:=ih a n h _ _ nx .nor sa ma _ hA hd
    obtain ⟨b1,b2,b3,_⟩:=ih b n h _ _ nx .nor sb mb _ hB hd
    have hks:∀ k∈waysF m s h.jp,k∈app (waysF m s h.jp) (rangeF (Nat.sub nx' nx) nx):=fun k hk=>by rw [app_eq];simp [hk]
    have ca:=meet_s hks (a2 w1) (meetM ma mb (app (waysF m s h.jp) (rangeF (Nat.sub nx' nx) nx)) m) (fun k c q=>by
     rcases meet_get _ _ q with ⟨g1,g2,g3⟩|g
     ·exact .inl ⟨g1,g2⟩
     ·exact .inr g) a3
    have cb:=meet_s hks (b2 w2) (meetM ma mb (app (waysF m s h.jp) (rangeF (Nat.sub nx' nx) nx)) m) (fun k c q=>by
     rcases meet_get _ _ q with ⟨g1,g2,g3⟩|g
     ·exact .inl ⟨g1,g3⟩
     ·exact .inr g) b3
    refine ⟨hdk,fun _ t ht=>by rw [keep_get,if_pos ht],⟨ca.1,fun B e f a0 w hg hdj hfr hi hl hsz Q hQ=>?_⟩,fun b q=>by cases q⟩
    have hv:=ev_rv hl hg h1
    generalize hev2:a0.eval y=u at hv
    cases hv with
    | ub t =>
     refine wp_cond hev2 ?_
     cases t
     ·exact cb.2 B e f a0 w hg hdj hfr hi hl hsz Q hQ
     ·exact ca.2 B e f a0 w hg hdj hfr hi hl hsz Q hQ
  | block id b =>
   have hh:(AS.rec (fun e s' m' nx'=>Ex.rec (.ok .nor s' m' nx') (fun j=>bcd (Nat.beq j id) (.ok .nor s' m' nx') (.ok (.exit j) s' m' nx')) (.ok .ret s' m' nx') e) (fun e=>.no e) (evC fuel b P call n h s m nx):AS)=.ok x s' m' nx':=hh
   obtain ⟨x1,s1,m1,n1,h1,h2⟩:=as_is hh
   obtain ⟨k1,k2,⟨k3,k4⟩,_⟩:=ih b n h s m nx x1 s1 m1 n1 h1 hd
   have key:s1=s'∧m1=m'∧n1=nx'∧∀ (Q:Exit→Act→World→Prop) a w,Q (exOf x) a w→Exit.inBlock id Q (exOf x1) a w:=by
    cases x1 with
    | nor =>
     have h2:AS.ok .nor s1 m1 n1=.ok x s' m' nx':=h2
     cases h2
     exact ⟨rfl,rfl,rfl,fun _ _ _ q=>q⟩
    | ret =>
     have h2:AS.ok .ret s1 m1 n1=.ok x s' m' nx':=h2
     cases h2
     exact ⟨rfl,rfl,rfl,fun _ _ _ q=>q⟩
    | exit j =>
     have h2:bcd (Nat.beq j id) (.ok .nor s1 m1 n1) (.ok (.exit j) s1 m1 n1)=AS.ok x s' m' nx':=h2
     cases q:Nat.beq j id
     ·rw [q] at h2
      have h2:AS.ok (.exit j) s1 m1 n1=.ok x s' m' nx':=h2
      cases h2
      exact ⟨rfl,rfl,rfl,fun Q a w k=>by
       show (if j=id then Q .normal a w else Q (.exit j) a w)
       rw [if_neg (Nat.ne_of_beq_eq_false q)];exact k⟩
     ·rw [q] at h2
      have h2:AS.ok .nor s1 m1 n1=.ok x s' m' nx':=h2
      cases h2
      exact ⟨rfl,rfl,rfl,fun Q a w k=>by
       show (if j=id then Q .normal a w else Q (.exit j) a w)
       rw [if_pos (Nat.eq_of_beq_eq_true q)];exact k⟩
   obtain ⟨rfl,rfl,rfl,hq⟩:=key
   exact ⟨k1,fun hw t ht=>k2 hw t ht,⟨k3,fun B e f a0 w hg hdj hfr hi hl hsz Q hQ=>wp_block (k4 B e f a0 w hg hdj hfr hi hl hsz _ fun a' w' e' hL=>hq Q a' w' (hQ a' w' e' hL))⟩,fun b q=>by cases q⟩
  | loop b =>
   have hh:(AS.rec (fun e s' m' nx'=>Ex.rec (evC fuel (.loop b) P call n h s' m' nx') (fun id=>.ok (.exit id) s' m' nx') (.ok .ret s' m' nx') e) (fun e=>.no e) (evC fuel b P call n h s m nx):AS)=.ok x s' m' nx':=hh
   obtain ⟨x1,s1,m1,n1,h1,h2⟩:=as_is hh
   obtain ⟨k1,k2,⟨k3,k4⟩,_⟩:=ih b n h s m nx x1 s1 m1 n1 h1 hd
   have fin:∀ N,CdL P n b N s m nx (exOf x) s' m' nx'→Dom h.kp s'→(noW h.js (.loop b)=true→∀ t∈h.js,s'.get t=s.get t)→CSay P n h (.loop b) s m nx x s' m' nx':=fun N hN hD hW =>
    ⟨hD,hW,⟨hN.1,fun B e f a0 w hg hdj hfr hi hl hsz Q hQ=>LW_wp (hN.2 B e f a0 w hg hdj hfr hi hl hsz Q hQ)⟩,fun b' q=>by cases q;exact ⟨N,hN⟩⟩
   cases x1 with
   | nor =>
    have h2:evC fuel (.loop b) P call n h s1 m1 n1=.ok x s' m' nx':=h2
    obtain ⟨j1,j2,_,j3⟩:=ih (.loop b) n h s1 m1 n1 x s' m' nx' h2 k1
    obtain ⟨N,j4,j5⟩:=j3 b rfl
    refine fin (N+1) ⟨Nat.le_trans k3 j4,fun B e f a0 w hg hdj hfr hi hl hsz Q hQ=>?_⟩ j1 fun hw t ht=>by rw [j2 hw t ht,k2 hw t ht]
    exact k4 B e f a0 w hg hdj (hfr.left j4) hi hl hsz _ fun a1 w1 e1 hL=>j5 B e1 f a1 w1 (hg.mono hL.ee) hL.disj (hfr.right k3 hL.out) hL.inv hL.look (hL.size.trans hsz) Q fun a2 w2 e2 hL2=>hQ a2 w2 e2 (hL.trans hL2 k3 j4)
   | exit id =>
    have h2:AS.ok (.exit id) s1 m1 n1=.ok x s' m' nx':=h2
    cases h2
    exact fin 1 ⟨k3,fun B e f a0 w hg hdj hfr hi hl hsz Q hQ=>k4 B e f a0 w hg hdj hfr hi hl hsz _ hQ⟩ k1 k2
   | ret =>
    have h2:AS.ok .ret s1 m1 n1=.ok x s' m' nx':=h2
    cases h2
    exact fin 1 ⟨k3,fun B e f a0 w hg hdj hfr hi hl hsz Q hQ=>k4 B e f a0 w hg hdj hfr hi hl hsz _ hQ⟩ k1 k2
  | exit id =>
   have hh:AS.ok (.exit id) s m nx=.ok x s' m' nx':=hh
   cases hh
   exact ⟨hd,fun _ _ _=>rfl,CdS.of fun a w Q q=>wp_exit q,fun b q=>by cases q⟩
  | scope b =>
   have hh:evC fuel b P call n h s m nx=.ok x s' m' nx':=hh
   obtain ⟨k1,k2,⟨k3,k4⟩,_⟩:=ih b n h s m nx x s' m' nx' hh hd
   refine ⟨k1,fun hw t ht=>k2 hw t ht,⟨k3,fun B e f a0 w hg hdj hfr hi hl hsz Q hQ=>wp_scope_straight (k4 B e f a0 w hg hdj hfr hi hl hsz _ fun a' w' e' hL=>?_)⟩,fun b q=>by cases q⟩
   have:=hQ a' w' e' hL
   cases x <;> exact this
  | label l =>
   have hh:AS.ok .nor s m nx=.ok x s' m' nx':=hh
   cases hh
   exact ⟨hd,fun _ _ _=>rfl,CdS.of fun a w Q q=>wp_label q,fun b q=>by cases q⟩
  | ret =>
   have hh:AS.ok .ret s m nx=.ok x s' m' nx':=hh
   cases hh
   exact ⟨hd,fun _ _ _=>rfl,CdS.of fun a w Q q=>wp_ret q,fun b q=>by cases q⟩
  | rangeFunc=>exact absurd (show AS.no [35]=.ok x s' m' nx' from hh) (by simp)
  | goto _=>exact absurd (show AS.no [50]=.ok x s' m' nx' from hh) (by simp)
  | refuse _=>exact absurd (show AS.no [51]=.ok x s' m' nx' from hh) (by simp)
end
end NE
namespace NE
section
variable {P:Program} {call:CallF}
theorem args0_get (t:Nat):∀ (vs:List SV) (i:Nat) (s:SS),(args0 vs i s).get t=if i≤t∧t<i+vs.length then vs[t - i]? else s.get t
 | [],i,s=>by
  show s.get t=_
  rw [if_neg (by simp only [List.length_nil];omega)]
 | v::vs,i,s=>by
  show (args0 vs (Nat.succ i) (s.put i v)).get t=_
  rw [args0_get t vs,Zl]
  by_cases e1:t=i
  ·subst e1
   rw [if_neg (by omega),if_pos rfl,if_pos (by simp)]
   simp
  ·by_cases e2:Nat.succ i≤t∧t<Nat.succ i+vs.length
   ·rw [if_pos e2,if_pos (by simp only [List.length_cons];omega)]
    rw [show t - i=(t - Nat.succ i)+1 by omega]
    simp
   ·rw [if_neg e2,if_neg (fun h=>e1 h.symm),if_neg (by simp only [List.length_cons];omega)]
theorem res_run {B:Nat} {e:Env} {f:Mu} {w:World} {s:SS} {m:SM} {a:Act} (hi:NInv B e (uni m f) w) (hl:Look e .nil s a):∀ (rs:List ResultVar) (l:List SV),resF P rs s m=some l→∃ us,RVs e l us∧(rs.mapM (resSem a.tmps)).run P w=.ok us w
 | [],l,h=>by
  have h:some []=some l:=h
  cases h
  exact ⟨[],.nil,by simp⟩
 | r::rs,l,h=>by
  obtain ⟨v,h1,h2⟩:=Zc (show (orec (ResultVar.rec (motive:=fun _=>Option SV) (fun t=>s.get t) (fun a t=>orec (s.get a) none fun q=>q.ptr (fun k off=>loadF P t m k off) none) r) none fun v=>orec (resF P rs s m) none fun q=>some (v::q))=some l from h)
  obtain ⟨l',h3,h4⟩:=Zc h2
  cases h4
  obtain ⟨us,k1,k2⟩:=res_run hi hl rs l' h3
  have key:∃ u,RV e v u∧(resSem a.tmps r).run P w=.ok u w:=by
   cases r with
   | tmp t =>
    have h1:s.get t=some v:=h1
    obtain ⟨_,q⟩:=hl t v (by rw [lc_nil];exact h1)
    exact ⟨_,q,by simp [resSem]⟩
   | cell t y =>
    obtain ⟨q,h5,h6⟩:=Zc (show (orec (s.get t) none fun q=>q.ptr (fun k off=>loadF P y m k off) none)=some v from h1)
    obtain ⟨k,off,rfl,h7⟩:=ptr_is h6
    obtain ⟨_,hr⟩:=hl t (.p k off) (by rw [lc_nil];exact h5)
    obtain ⟨x,g1,u,g2,g3⟩:=load_run hi h7
    generalize hz:a.tmps.getD t undef=z at hr
    cases hr with
    | p hk =>
     rw [g1] at hk
     cases hk
     exact ⟨u,g3,by simp [resSem,hz,asAddr,g2]⟩
  obtain ⟨u,g1,g2⟩:=key
  refine ⟨u::us,.cons g1 k1,?_⟩
  rw [List.mapM_cons]
  simp only [Sem.run_bind]
  rw [g2]
  simp only [Result.andThen_ok,k2,Sem.run_pure]
theorem ress_run {B:Nat} {e:Env} {f:Mu} {w:World} {s:SS} {m:SM} {a:Act} (hi:NInv B e (uni m f) w) (hl:Look e .nil s a) {fn:Func} {l:List SV} (h:resF P fn.results.toList s m=some l):∃ u,RV e (oneF l) u∧(results fn a.tmps).run P w=.ok u w:=by
 obtain ⟨us,h1,h2⟩:=res_run hi hl _ _ h
 have e:results fn a.tmps=(fn.results.mapM (resSem a.tmps) >>= fun vs=>pure (if h:vs.size=1 then vs[0] else .tuple vs)):=by
  unfold results
  congr
 have e2:(fn.results.mapM (resSem a.tmps)).run P w=.ok us.toArray w:=by
  rw [Array.mapM_eq_mapM_toList,Sem.run_map,h2];rfl
 rw [e,Sem.run_bind,e2]
 simp only [Result.andThen_ok,Sem.run_pure]
 cases h1 with
 | nil=>exact ⟨_,.tup .nil,by simp⟩
 | cons k ks =>
  cases ks with
  | nil=>exact ⟨_,k,by simp⟩
  | cons k2 ks=>exact ⟨_,.tup (.cons k (.cons k2 ks)),by simp⟩
theorem low_bits {n kp:Nat} (h:sub (Nat.sub (Nat.shiftLeft 1 n) 1) kp=true) {t:Nat} (ht:t<n):kp.testBit t=true:=by
 refine sub_is h ?_
 show ((1 <<< n) - 1).testBit t=true
 rw [Nat.one_shiftLeft,Nat.testBit_two_pow_sub_one]
 simpa using ht
theorem evB_s (hm : P.follows .mixedOrders = true) (hN : ∀ (f : FuncId) (fn : Func), P.funcs[f]? = some fn → (fn.name == "runtime.NumGoroutine") = false) (hc : CallS P call) {H : Tr Hint} {fid : FuncId} {vs : List SV} {m m' : SM} {nx nx' : Nat} {v : SV} (h : evB P H call fid vs m nx = .ok v m' nx') :
    nx≤nx'∧Enters P fid∧∀ (B:Nat) (e:Env) (f:Mu) (w:World) (us:List Value),Glob e→Disj m f→Fr e nx nx'→NInv B e (uni m f) w→RVs e vs us→Calls P fid us.toArray w (fun en w'=>∃ u,en=.returned u∧Aft B e f nx w v m' nx' u w'):=by
 unfold evB at h
 obtain ⟨fn,h1,h⟩:=Zd h
 obtain ⟨c,h2,h⟩:=Zd h
 obtain ⟨hh,h3,h⟩:=Zd h
 have h:bcd (bcd (Nat.ble (len vs) fn.ntmps) (sub (Nat.sub (Nat.shiftLeft 1 (len vs)) 1) hh.kp) false) (AS.rec (motive:=fun _=>AR) (fun e s m' nx'=>Ex.rec (orec (resF P fn.results.toList s m') (.no [40,fid]) fun l=>.ok (oneF l) m' nx') (fun _=>.no [39]) (orec (resF P fn.results.toList s m') (.no [40,fid]) fun l=>.ok (oneF l) m' nx') e) (fun e=>.no (2000::fid::e))
       (evC 1000000 c P call fn.ntmps hh (args0 vs 0 .e) m nx)) (.no [53,fid])=.ok v m' nx':=h
 cases hb:bcd (Nat.ble (len vs) fn.ntmps) (sub (Nat.sub (Nat.shiftLeft 1 (len vs)) 1) hh.kp) false with
 | false=>rw [hb] at h;exact absurd (show AR.no [53,fid]=.ok v m' nx' from h) (by simp)
 | true =>
 rw [hb] at h
 obtain ⟨b1,b2⟩:=Za hb
 rw [Zi] at b1 b2
 have b1:=Nat.le_of_ble_eq_true b1
 generalize hev:evC 1000000 c P call fn.ntmps hh (args0 vs 0 .e) m nx=r at h
 cases r with
 | no e=>exact absurd (show AR.no (2000::fid::e)=.ok v m' nx' from h) (by simp)
 | ok x s m1 n1 =>
 have hdom:Dom hh.kp (args0 vs 0 .e):=by
  intro t ht
  rw [args0_get] at ht
  by_cases q:0≤t∧t<0+vs.length
  ·exact low_bits b2 (by omega)
  ·rw [if_neg q,get_e] at ht;simp at ht
 obtain ⟨_,_,⟨k1,k2⟩,_⟩:=evC_s hm hc _ c fn.ntmps hh _ m nx x s m1 n1 hev hdom
 have hres:(x=.nor∨x=.ret)∧∃ l,resF P fn.results.toList s m1=some l∧v=oneF l∧m'=m1∧nx'=n1:=by
  have go:(orec (resF P fn.results.toList s m1) (.no [40,fid]) fun l=>.ok (oneF l) m1 n1)=AR.ok v m' nx'→∃ l,resF P fn.results.toList s m1=some l∧v=oneF l∧m'=m1∧nx'=n1:=by
   intro q
   obtain ⟨l,q1,q2⟩:=Zd q
   cases q2
   exact ⟨l,q1,rfl,rfl,rfl⟩
  cases x with
  | nor=>exact ⟨.inl rfl,go h⟩
  | ret=>exact ⟨.inr rfl,go h⟩
  | exit id=>exact absurd (show AR.no [39]=.ok v m' nx' from h) (by simp)
 obtain ⟨hx,l,r1,rfl,rfl,rfl⟩:=hres
 refine ⟨k1,enters_of h1 (hN _ _ h1) (by rw [h2];rfl),fun B e f w us hg hdj hfr hi hr=>calls_of_wp h1 h2 ?_⟩
 have hlen:=hr.len
 refine k2 B e f _ w hg hdj hfr hi (fun t u hu=>?_) ?_ _ fun a' w' e' hL=>?_
 ·rw [lc_nil,args0_get] at hu
  by_cases q:0≤t∧t<0+vs.length
  ·rw [if_pos q] at hu
   obtain ⟨y,g1,g2⟩:=hr.get hu
   have hlt:t<us.length:=by omega
   refine ⟨by simp;omega,?_⟩
   have:(us.toArray++Array.replicate (fn.ntmps - us.toArray.size) undef).getD t undef=y:=by
    rw [Array.getD_eq_getD_getElem?,Array.getElem?_append_left (by simpa using hlt)]
    simp at g1 ⊢
    rw [g1];rfl
   show RV e u ((us.toArray++Array.replicate (fn.ntmps - us.toArray.size) undef).getD t undef)
   rw [this];exact g2
  ·rw [if_neg q,get_e] at hu;cases hu
 ·simp;omega
 ·obtain ⟨u,g1,g2⟩:=ress_run hL.inv hL.look r1
  have:a'.defers=[]∧∃ v,(results fn a'.tmps).run P w'=.ok v w'∧∃ u,(.returned v:Ending)=.returned u∧Aft B e f nx w (oneF l) m' nx' u w' :=
   ⟨hL.defs,u,g2,u,rfl,e',hL.ee,hL.out,g1,hL.inv,hL.bel,hL.disj⟩
  rcases hx with rfl|rfl <;> exact this
end
def KnS (P:Program) (k:Kn):Prop:=CallS P fun f vs m nx=>bcd (bcd (Nat.beq k.f f) (bcd (SV.eqbs k.args vs) (gOk k.g m) false) false) (.ok (shV nx k.v) (shB nx k.bs nx m) (Nat.add nx (len k.bs))) (.no [])
theorem knF_is {fid:FuncId} {vs:List SV}:∀ (K:List Kn) (k:Kn),knF K fid vs=some k→k∈K∧Nat.beq k.f fid=true∧SV.eqbs k.args vs=true:=by
 intro K
 induction K with
 | nil=>intro k q;cases q
 | cons k0 K ih =>
  intro k q
  have q:bcd (Nat.beq k0.f fid) (bcd (SV.eqbs k0.args vs) (some k0) (knF K fid vs)) (knF K fid vs)=some k:=q
  cases q1:Nat.beq k0.f fid
  ·rw [q1] at q
   obtain ⟨g1,g2⟩:=ih k q
   exact ⟨by simp [g1],g2⟩
  ·rw [q1] at q
   have q:bcd (SV.eqbs k0.args vs) (some k0) (knF K fid vs)=some k:=q
   cases q2:SV.eqbs k0.args vs
   ·rw [q2] at q
    obtain ⟨g1,g2⟩:=ih k q
    exact ⟨by simp [g1],g2⟩
   ·rw [q2] at q
    have q:some k0=some k:=q
    cases q
    exact ⟨by simp,q1,q2⟩
theorem evF_s {P : Program} {H : Tr Hint} {K : List Kn} (hm : P.follows .mixedOrders = true) (hN : ∀ (f : FuncId) (fn : Func), P.funcs[f]? = some fn → (fn.name == "runtime.NumGoroutine") = false) (hK : ∀ k ∈ K, KnS P k) : ∀ n, CallS P (evF P H K n)
 | 0=>fun fid vs m nx v m' nx' h=>absurd (show AR.no [36,fid]=.ok v m' nx' from h) (by simp)
 | n+1=>fun fid vs m nx v m' nx' h=>by
  have h:orec (knF K fid vs) (evB P H (evF P H K n) fid vs m nx) (fun k=>bcd (gOk k.g m) (.ok (shV nx k.v) (shB nx k.bs nx m) (Nat.add nx (len k.bs))) (.no [87,fid]))=AR.ok v m' nx':=h
  cases q:knF K fid vs with
  | none =>
   rw [q,orec_none] at h
   exact evB_s hm hN (evF_s hm hN hK n) h
  | some k =>
   rw [q,Zh] at h
   obtain ⟨g1,g2,g3⟩:=knF_is K k q
   refine hK k g1 fid vs m nx v m' nx' ?_
   show bcd (bcd (Nat.beq k.f fid) (bcd (SV.eqbs k.args vs) (gOk k.g m) false) false) _ _=_
   rw [g2,g3]
   cases hg:gOk k.g m
   ·rw [hg] at h
    exact absurd (show AR.no [87,fid]=.ok v m' nx' from h) (by simp)
   ·rw [hg] at h
    exact h
end NE
namespace NE
def reN (r:List Nat) (k:Nat) (f:Nat→SV):SV:=match k with
 | 0=>f 0
 | j+1=>match r[j]? with
  | some k=>f k
  | none=>.ub
mutual
def reV (r:List Nat):SV→SV
 | .agg cs=>.agg (reL r cs)
 | .tup cs=>.tup (reL r cs)
 | .p k o=>reN r k fun k=>.p k o
 | .sl k a b=>reN r k fun k=>.sl k a b
 | .mp k=>reN r k fun k=>.mp k
 | .fn f a b=>.fn f (reL r a) (reL r b)
 | .ifc t x=>.ifc t (reV r x)
 | x=>x
def reL (r:List Nat):List SV→List SV
 | []=>[]
 | x::l=>reV r x::reL r l
end
mutual
def flV:SV→Bool
 | .agg cs=>flL cs
 | .tup cs=>flL cs
 | .p _ _=>false
 | .sl _ _ _=>false
 | .mp _=>false
 | .fn _ a b=>flL a && flL b
 | .ifc _ x=>flV x
 | _=>true
def flL:List SV→Bool
 | []=>true
 | x::l=>flV x && flL l
end
mutual
theorem flV_rv {e e':Env}:∀ {v:SV} {u:Value},flV v=true→RV e v u→RV e' v u
 | _,_,_,.i k n=>.i k n
 | _,_,_,.b x=>.b x
 | _,_,_,.s l h=>.s l h
 | _,_,_,.v x=>.v x
 | _,_,h,.agg hs h1=>.agg (flL_rv (by simpa only [flV] using h) hs) h1
 | _,_,h,.tup hs=>.tup (flL_rv (by simpa only [flV] using h) hs)
 | _,_,h,.p hk=>by simp [flV] at h
 | _,_,h,.sl hk hc ho=>by simp [flV] at h
 | _,_,_,.s0 b o=>.s0 b o
 | _,_,h,.mp hk=>by simp [flV] at h
 | _,_,h,.fn h1 h2=>by
  simp only [flV,Bool.and_eq_true] at h
  exact .fn (flL_rv h.1 h1) (flL_rv h.2 h2)
 | _,_,h,.ifc hx=>.ifc (flV_rv (by simpa only [flV] using h) hx)
 | _,_,_,.ub x=>.ub x
theorem flL_rv {e e':Env}:∀ {v:List SV} {u:List Value},flL v=true→RVs e v u→RVs e' v u
 | _,_,_,.nil=>.nil
 | _,_,h,.cons hx hs=>by
  simp only [flL,Bool.and_eq_true] at h
  exact .cons (flV_rv h.1 hx) (flL_rv h.2 hs)
end
section
variable {e1 e':Env} {r:List Nat} {d:Nat}
mutual
theorem reV_rv (h0:∀ x,e1 0=some x→e' 0=some x) (hE:∀ j k x,r[j]?=some k→e1 k=some x→e' (j+d)=some x):∀ (v:SV) (u:Value),SV.eqb (reV r v) (reV r v)=true→RV e1 (reV r v) u→RV e' (shV d v) u
 | .i k n,u,_,h=>by simp only [reV] at h;cases h;exact .i k n
 | .b x,u,_,h=>by simp only [reV] at h;cases h;exact .b x
 | .s l,u,_,h=>by simp only [reV] at h;cases h;rename_i h;exact .s l h
 | .v x,u,_,h=>by simp only [reV] at h;cases h;exact .v x
 | .s0,u,_,h=>by simp only [reV] at h;cases h;exact .s0 _ _
 | .ub,u,q,h=>by simp [reV,SV.eqb] at q
 | .agg cs,u,q,h=>by
  simp only [reV] at h q
  cases h with
  | agg hs h1=>simp only [shV];exact .agg (reL_rv h0 hE cs _ (by simpa only [SV.eqb] using q) hs) h1
 | .tup cs,u,q,h=>by
  simp only [reV] at h q
  cases h with
  | tup hs=>simp only [shV];exact .tup (reL_rv h0 hE cs _ (by simpa only [SV.eqb] using q) hs)
 | .fn f a b,u,q,h=>by
  simp only [reV] at h q
  cases h with
  | fn ha hb =>
   simp only [SV.eqb] at q
   obtain ⟨_,q⟩:=Za q
   obtain ⟨q1,q2⟩:=Za q
   simp only [shV]
   exact .fn (reL_rv h0 hE a _ q1 ha) (reL_rv h0 hE b _ q2 hb)
 | .ifc t x,u,q,h=>by
  simp only [reV] at h q
  cases h with
  | ifc hx =>
   simp only [SV.eqb] at q
   obtain ⟨_,q⟩:=Za q
   simp only [shV]
   exact .ifc (reV_rv h0 hE x _ q hx)
 | .p k o,u,q,h=>by
  simp only [reV] at h q
  simp only [shV]
  cases k with
  | zero=>simp only [reN] at h;cases h with|p hk=>exact .p (h0 _ hk)
  | succ j =>
   simp only [reN] at h q
   cases g:r[j]? with
   | none=>rw [g] at q;simp [SV.eqb] at q
   | some k'=>rw [g] at h;cases h with|p hk=>exact .p (k:=j+d) (hE j k' _ g hk)
 | .sl k a b,u,q,h=>by
  simp only [reV] at h q
  simp only [shV]
  cases k with
  | zero=>simp only [reN] at h;cases h with|sl hk hc ho=>exact .sl (h0 _ hk) hc ho
  | succ j =>
   simp only [reN] at h q
   cases g:r[j]? with
   | none=>rw [g] at q;simp [SV.eqb] at q
   | some k'=>rw [g] at h;cases h with|sl hk hc ho=>exact .sl (k:=j+d) (hE j k' _ g hk) hc ho
 | .mp k,u,q,h=>by
  simp only [reV] at h q
  simp only [shV]
  cases k with
  | zero=>simp only [reN] at h;cases h with|mp hk=>exact .mp (h0 _ hk)
  | succ j =>
   simp only [reN] at h q
   cases g:r[j]? with
   | none=>rw [g] at q;simp [SV.eqb] at q
   | some k'=>rw [g] at h;cases h with|mp hk=>exact .mp (k:=j+d) (hE j k' _ g hk)
theorem reL_rv (h0:∀ x,e1 0=some x→e' 0=some x) (hE:∀ j k x,r[j]?=some k→e1 k=some x→e' (j+d)=some x):∀ (v:List SV) (u:List Value),SV.eqbs (reL r v) (reL r v)=true→RVs e1 (reL r v) u→RVs e' (shL d v) u
 | [],u,_,h=>by simp only [reL] at h;cases h;exact .nil
 | x::l,u,q,h=>by
  simp only [reL] at h q
  cases h with
  | cons hx hs =>
   simp only [SV.eqbs] at q
   obtain ⟨q1,q2⟩:=Za q
   simp only [shL]
   exact .cons (reV_rv h0 hE x _ q1 hx) (reL_rv h0 hE l _ q2 hs)
end
end
theorem shL_len (d:Nat):∀ l:List SV,(shL d l).length=l.length
 | []=>rfl
 | x::l=>by simp [shL,shL_len d l]
theorem reL_len (r:List Nat):∀ l:List SV,(reL r l).length=l.length
 | []=>rfl
 | x::l=>by simp [reL,reL_len r l]
noncomputable def kCell (r:List Nat) (es:Tr (List SV)) (ls:List (List SV)):Nat→Bool :=
 List.rec (motive:=fun _=>Nat→Bool) (fun _=>true) (fun c _ ih i=>orec (es.get i) false fun cs=>bcd (SV.eqbs cs (reL r c)) (ih (Nat.succ i)) false) ls
noncomputable def kBlk (m:SM) (r:List Nat) (b:Nat × List (List SV)) (k:Nat):Bool :=
 orec (m.get k) false fun q=>q.cl (fun w es n live _=>bcd live (bcd (Nat.beq w b.1) (bcd (Nat.ble (len b.2) n) (kCell r es b.2 0) false) false) false) false
noncomputable def kBlks (m:SM) (r:List Nat) (bs:List (Nat × List (List SV))):List Nat→Bool :=
 List.rec (motive:=fun _=>List Nat→Bool) (fun ks=>List.rec true (fun _ _ _=>false) ks) (fun b _ ih ks=>List.rec false (fun k l _=>bcd (kBlk m r b k) (ih l) false) ks) bs
noncomputable def kDis (r:List Nat):Bool:=List.rec true (fun k l ih=>bcd (List.rec true (fun j _ q=>bcd (Nat.beq k j) false q) l) ih false) r
def gMem (g:Option SB):SM:=match g with
 | none=>.e
 | some b=>.n (some b) .e .e
noncomputable def gFl (g:Option SB):Bool:=Option.rec true (fun b=>b.cl (fun _ es n lv _=>bcd lv false (Nat.rec true (fun i ih=>bcd (orec (es.get i) true fun cs=>flL cs) ih false) n)) false) g
theorem gFl_is {w n:Nat} {es:Tr (List SV)} {lv:Bool} {an:List Nat} (h:gFl (some (.c w es n lv an))=true):lv=false∧∀ i cs,i<n→es.get i=some cs→flL cs=true:=by
 cases lv with
 | true=>cases h
 | false =>
  replace h:(Nat.rec true (fun i ih=>bcd (orec (es.get i) true fun cs=>flL cs) ih false) n:Bool)=true:=h
  refine ⟨rfl,?_⟩
  induction n with
  | zero=>intro i cs hi;omega
  | succ n ih =>
   obtain ⟨h1,h2⟩:=Za (show bcd (orec (es.get n) true fun cs=>flL cs) (Nat.rec true (fun i ih=>bcd (orec (es.get i) true fun cs=>flL cs) ih false) n) false=true from h)
   intro i cs hi hg
   rcases Nat.lt_or_ge i n with q|q
   ·exact ih h2 i cs q hg
   ·have:i=n:=by omega
    subst this
    rw [hg] at h1
    exact h1
noncomputable def kChk (k:Kn) (r:List Nat) (x:AR):Bool :=
 AR.rec (fun v m _=>bcd (SV.eqb v (reV r k.v)) (bcd (kBlks m r k.bs r) (bcd (kDis r) (bcd (flL k.args) (gFl k.g) false) false) false) false) (fun _=>false) x
theorem kCell_is {r:List Nat} {es:Tr (List SV)}:∀ (ls:List (List SV)) (i:Nat),kCell r es ls i=true→∀ j c,ls[j]?=some c→∃ cs,es.get (i+j)=some cs∧SV.eqbs cs (reL r c)=true
 | [],_,_,j,c,h=>by simp at h
 | a::ls,i,h,j,c,hj=>by
  obtain ⟨cs,h1,h2⟩:=orec_true (show (orec (es.get i) false fun cs=>bcd (SV.eqbs cs (reL r a)) (kCell r es ls (Nat.succ i)) false)=true from h)
  obtain ⟨h3,h4⟩:=Za h2
  cases j with
  | zero=>simp at hj;subst hj;exact ⟨cs,h1,h3⟩
  | succ j =>
   obtain ⟨cs',g1,g2⟩:=kCell_is ls _ h4 j c (by simpa using hj)
   exact ⟨cs',by rw [← g1];congr 1;omega,g2⟩
theorem kBlks_is {m:SM} {r:List Nat}:∀ (bs:List (Nat × List (List SV))) (ks:List Nat),kBlks m r bs ks=true→bs.length=ks.length∧∀ (j:Nat) (b:Nat × List (List SV)),bs[j]?=some b→∃ k,ks[j]?=some k∧kBlk m r b k=true
 | [],[],_=>⟨rfl,fun j b h=>by simp at h⟩
 | [],_::_,h=>by cases h
 | _::_,[],h=>by cases h
 | b::bs,k::ks,h=>by
  obtain ⟨h1,h2⟩:=Za (show bcd (kBlk m r b k) (kBlks m r bs ks) false=true from h)
  obtain ⟨h3,h4⟩:=kBlks_is bs ks h2
  refine ⟨by simp [h3],fun j b' hj=>?_⟩
  cases j with
  | zero=>simp at hj;subst hj;exact ⟨k,by simp,h1⟩
  | succ j=>simpa using h4 j b' (by simpa using hj)
theorem kDis_is:∀ {r:List Nat},kDis r=true→∀ (i j k:Nat),r[i]?=some k→r[j]?=some k→i=j
 | [],_,i,j,k,h,_=>by simp at h
 | a::r,h,i,j,k,hi,hj=>by
  obtain ⟨h1,h2⟩:=Za (show bcd (List.rec true (fun j _ q=>bcd (Nat.beq a j) false q) r) (kDis r) false=true from h)
  have nin:∀ l:List Nat,(List.rec true (fun j _ q=>bcd (Nat.beq a j) false q) l:Bool)=true→a∉l:=by
   intro l
   induction l with
   | nil=>intro _;simp
   | cons x l ih =>
    intro q
    have q:bcd (Nat.beq a x) false (List.rec true (fun j _ q=>bcd (Nat.beq a j) false q) l)=true:=q
    cases g:Nat.beq a x
    ·rw [g] at q
     simp only [List.mem_cons,not_or]
     exact ⟨Nat.ne_of_beq_eq_false g,ih q⟩
    ·rw [g] at q;cases q
  cases i with
  | zero =>
   cases j with
   | zero=>rfl
   | succ j =>
    simp at hi hj
    subst hi
    exact absurd (List.mem_of_getElem? hj) (nin r h1)
  | succ i =>
   cases j with
   | zero =>
    simp at hi hj
    subst hj
    exact absurd (List.mem_of_getElem? hi) (nin r h1)
   | succ j=>rw [kDis_is h2 i j k (by simpa using hi) (by simpa using hj)]
noncomputable def blkOf (d:Nat) (b:Nat × List (List SV)):SB:=.c b.1 (putsF (b.2.map (shL d)) .e 0) (len b.2) true []
theorem shB_get (d t:Nat):∀ (bs:List (Nat × List (List SV))) (i:Nat) (m:SM),(shB d bs i m).get t=if i≤t∧t<i+bs.length then (bs[t - i]?).map (blkOf d) else m.get t
 | [],i,m=>by
  show m.get t=_
  rw [if_neg (by simp only [List.length_nil];omega)]
 | b::bs,i,m=>by
  show (shB d bs (Nat.succ i) (m.put i (blkOf d b))).get t=_
  rw [shB_get d t bs,Zl]
  by_cases e1:t=i
  ·subst e1
   rw [if_neg (by omega),if_pos rfl,if_pos (by simp)]
   simp
  ·by_cases e2:Nat.succ i≤t∧t<Nat.succ i+bs.length
   ·rw [if_pos e2,if_pos (by simp only [List.length_cons];omega)]
    rw [show t - i=(t - Nat.succ i)+1 by omega]
    simp
   ·rw [if_neg e2,if_neg (fun h=>e1 h.symm),if_neg (by simp only [List.length_cons];omega)]
theorem kn_of {P:Program} {call:CallF} (hc:CallS P call) {k:Kn} {r:List Nat} (h:kChk k r (call k.f k.args (gMem k.g) 1)=true):KnS P k:=by
 cases hx:call k.f k.args (gMem k.g) 1 with
 | no e=>rw [hx] at h;cases h
 | ok v m1 n1 =>
 rw [hx] at h
 obtain ⟨c1,h⟩:=Za (show bcd (SV.eqb v (reV r k.v)) (bcd (kBlks m1 r k.bs r) (bcd (kDis r) (bcd (flL k.args) (gFl k.g) false) false) false) false=true from h)
 obtain ⟨c2,h⟩:=Za h
 obtain ⟨c3,c4⟩:=Za h
 obtain ⟨c4,c5⟩:=Za c4
 obtain ⟨_,hent,hrun⟩:=hc _ _ _ _ _ _ _ hx
 intro fid vs m nx v2 m2 n2 hk
 have hk:bcd (bcd (Nat.beq k.f fid) (bcd (SV.eqbs k.args vs) (gOk k.g m) false) false) (AR.ok (shV nx k.v) (shB nx k.bs nx m) (Nat.add nx (len k.bs))) (.no [])=.ok v2 m2 n2:=hk
 cases hb:bcd (Nat.beq k.f fid) (bcd (SV.eqbs k.args vs) (gOk k.g m) false) false with
 | false=>rw [hb] at hk;exact absurd (show AR.no []=.ok v2 m2 n2 from hk) (by simp)
 | true =>
 rw [hb] at hk
 have hk:AR.ok (shV nx k.v) (shB nx k.bs nx m) (Nat.add nx (len k.bs))=.ok v2 m2 n2:=hk
 cases hk
 obtain ⟨b1,b2⟩:=Za hb
 obtain ⟨b2,b3⟩:=Za b2
 have:=Nat.eq_of_beq_eq_true b1
 subst this
 have:=eqbs_eq _ _ b2
 subst this
 obtain ⟨hlen,hblk⟩:=kBlks_is k.bs r c2
 rw [Zi]
 refine ⟨Nat.le_add_right _ _,hent,fun B e f w us hg hd hfr hi hr=>?_⟩
 have hfr:Fr e nx (nx+k.bs.length):=hfr
 obtain ⟨x0,g1,g2,g3⟩:=hg
 have hg0:NInv w.heap.size (fun k=>if k=0 then e 0 else none) (uni (gMem k.g) (fun _=>none)) w:=by
  cases hkg:k.g with
  | none=>exact ⟨Nat.le_refl _,fun k b q=>by simp [uni,gMem,get_e] at q,fun k k' b b' x x' q=>by simp [uni,gMem,get_e] at q⟩
  | some b =>
   rw [hkg] at c5 b3
   obtain ⟨c,p1,p2⟩:=orec_true (show (orec (m.get 0) false fun c=>SB.eqb c b)=true from b3)
   have:=sb_eq p2
   subst this
   have only:∀ t c',uni (gMem (some c)) (fun _=>none) t=some c'→t=0∧c'=c:=by
    intro t c' q
    cases t with
    | zero=>simp [uni,gMem,get_n0] at q;exact ⟨rfl,q.symm⟩
    | succ t=>simp [uni,gMem,get_ns,get_e] at q
   refine ⟨Nat.le_refl _,fun t c' q=>?_,fun t t' c1 c2 y y' q1 _ q3 q4=>absurd ((only t c1 q1).1.trans (only t' c2 q3).1.symm) q4⟩
   obtain ⟨rfl,rfl⟩:=only t c' q
   obtain ⟨x,p3,p4,p5⟩:=hi.ok 0 _ (uni_m p1)
   refine ⟨x,by simpa using p3,p4,?_⟩
   cases c' with
   | mp _=>cases c5
   | c wd es n lv an =>
    obtain ⟨rfl,hfl⟩:=gFl_is c5
    obtain ⟨s1,s2,s3,_⟩:=p5
    refine ⟨s1,s2,fun i cs hi2 hg=>?_,fun q=>by cases q⟩
    obtain ⟨u1,us',u2,u3⟩:=s3 i cs hi2 hg
    exact ⟨u1,us',flL_rv (hfl i cs hi2 hg) u2,u3⟩
 refine (hrun w.heap.size (fun k=>if k=0 then e 0 else none) (fun _=>none) w us ⟨x0,by simpa using g1,g2,g3⟩ (fun _ _=>rfl) (fun k k1 _=>by simp;intro q;omega) hg0 (flL_rv c4 hr)).mono ?_
 rintro en w' ⟨u,rfl,e1,k1,k2,k3,k4,k5,_⟩
 have hlow:∀ t x,e t=some x→¬ (nx≤t∧t<nx+k.bs.length):=fun t x q hh=>by rw [hfr t hh.1 hh.2] at q;cases q
 have hE:∀ j q x,r[j]?=some q→e1 q=some x→(fun t=>if nx≤t∧t<nx+k.bs.length then (r[t - nx]?).bind e1 else e t) (j+nx)=some x:=by
  intro j q x h1 h2
  have:j<r.length:=(List.getElem?_eq_some_iff.1 h1).1
  show (if nx≤j+nx∧j+nx<nx+k.bs.length then (r[j+nx - nx]?).bind e1 else e (j+nx))=some x
  rw [if_pos (by omega),Nat.add_sub_cancel,h1]
  exact h2
 have h0:∀ x,e1 0=some x→(fun t=>if nx≤t∧t<nx+k.bs.length then (r[t - nx]?).bind e1 else e t) 0=some x:=by
  intro x q
  have q2:e1 0=some x0:=k1 0 x0 (by simpa using g1)
  rw [q2] at q
  cases q
  show (if nx≤0∧0<nx+k.bs.length then (r[0 - nx]?).bind e1 else e 0)=_
  rw [if_neg (hlow 0 _ g1)]
  exact g1
 have hnew:∀ t,nx≤t∧t<nx+k.bs.length→∃ b q x,k.bs[t - nx]?=some b∧r[t - nx]?=some q∧(fun t=>if nx≤t∧t<nx+k.bs.length then (r[t - nx]?).bind e1 else e t) t=some x∧e1 q=some x∧w.heap.size≤x.blk∧x.blk<w'.heap.size∧(∃ es n an,m1.get q=some (.c b.1 es n true an)∧len b.2≤n∧kCell r es b.2 0=true):=by
  intro t ht
  have hlt:t - nx<k.bs.length:=by omega
  obtain ⟨q,hq,hkb⟩:=hblk (t - nx) (k.bs[t - nx]) (by simp [hlt])
  obtain ⟨sb,h1,h2⟩:=orec_true (show (orec (m1.get q) false fun q=>q.cl (fun w es n live _=>bcd live (bcd (Nat.beq w (k.bs[t - nx]).1) (bcd (Nat.ble (len (k.bs[t - nx]).2) n) (kCell r es (k.bs[t - nx]).2 0) false) false) false) false)=true from hkb)
  cases sb with
  | mp _=>cases h2
  | c wd es n lv an =>
   obtain ⟨h3,h4⟩:=Za (show bcd lv (bcd (Nat.beq wd (k.bs[t - nx]).1) (bcd (Nat.ble (len (k.bs[t - nx]).2) n) (kCell r es (k.bs[t - nx]).2 0) false) false) false=true from h2)
   obtain ⟨h4,h5⟩:=Za h4
   obtain ⟨h5,h6⟩:=Za h5
   have:=Nat.eq_of_beq_eq_true h4
   subst this
   subst h3
   obtain ⟨x,p1,p2,p3⟩:=k4.ok q _ (uni_m h1)
   refine ⟨_,q,x,by simp [hlt],hq,?_,p1,?_,p2,es,n,an,h1,Nat.le_of_ble_eq_true h5,h6⟩
   ·show (if nx≤t∧t<nx+k.bs.length then (r[t - nx]?).bind e1 else e t)=some x
    rw [if_pos ht,hq];exact p1
   ·exact (p3.2.2.2 rfl).1
 have hold:∀ t c,uni (shB nx k.bs nx m) f t=some c→¬ (nx≤t∧t<nx+k.bs.length)→uni m f t=some c:=by
  intro t c q hh
  unfold uni at q ⊢
  rw [shB_get,if_neg hh] at q
  exact q
 have hnewb:∀ t c,uni (shB nx k.bs nx m) f t=some c→(nx≤t∧t<nx+k.bs.length)→∃ b,k.bs[t - nx]?=some b∧c=blkOf nx b:=by
  intro t c q hh
  obtain ⟨b,_,_,h1,_⟩:=hnew t hh
  unfold uni at q
  rw [shB_get,if_pos hh,h1] at q
  simp at q
  exact ⟨b,h1,q.symm⟩
 refine ⟨u,rfl,(fun t=>if nx≤t∧t<nx+k.bs.length then (r[t - nx]?).bind e1 else e t),fun t x q=>?_,fun t ht=>?_,?_,⟨?_,fun t c q=>?_,fun t t' c c' y y' q1 q2 q3 q4 q5 q6 q7=>?_⟩,?_,fun t ht=>?_⟩
 ·show (if nx≤t∧t<nx+k.bs.length then (r[t - nx]?).bind e1 else e t)=some x
  rw [if_neg (hlow t x q)];exact q
 ·show (if nx≤t∧t<nx+k.bs.length then (r[t - nx]?).bind e1 else e t)=e t
  have ht:t<nx∨nx+k.bs.length≤t:=ht
  rw [if_neg (by omega)]
 ·have:=eqb_eq _ _ c1
  subst this
  exact reV_rv h0 hE k.v u c1 k3
 ·exact Nat.le_trans hi.base k5.size
 ·by_cases hh:nx≤t∧t<nx+k.bs.length
  ·obtain ⟨b,p1,rfl⟩:=hnewb t c q hh
   obtain ⟨b',q',x,p2,p3,p4,p5,p6,p7,es,n,an,p8,p9,p10⟩:=hnew t hh
   rw [p1] at p2
   cases p2
   obtain ⟨x',r1,r2,r3⟩:=k4.ok q' _ (uni_m p8)
   rw [p5] at r1
   cases r1
   obtain ⟨s1,s2,s3,s4⟩:=r3
   rw [Zi] at p9
   refine ⟨x,p4,p7,s1,?_,?_,fun _=>⟨Nat.le_trans hi.base p6,(s4 rfl).2⟩⟩
   ·rw [Zi];omega
   ·intro i cs hi2 hg
    rw [Zi] at hi2
    rw [puts_get] at hg
    simp only [Nat.zero_le,true_and,Nat.zero_add,List.length_map] at hg
    rw [if_pos hi2] at hg
    simp only [Nat.sub_zero,List.getElem?_map] at hg
    have hbi:b.2[i]?=some b.2[i]:=by simp [hi2]
    rw [hbi] at hg
    simp only [Option.map_some,Option.some.injEq] at hg
    subst hg
    obtain ⟨cs,t1,t2⟩:=kCell_is b.2 0 p10 i _ hbi
    rw [Nat.zero_add] at t1
    have:=eqbs_eq _ _ t2
    subst this
    obtain ⟨u1,us',u2,u3,u4⟩:=s3 i _ (by omega) t1
    exact ⟨by rw [shL_len,← reL_len r];exact u1,us',reL_rv h0 hE _ _ t2 u2,u3,u4⟩
  ·obtain ⟨x,p1,p2,p3⟩:=hi.ok t c (hold t c q hh)
   refine ⟨x,?_,Nat.lt_of_lt_of_le p2 k5.size,?_⟩
   ·show (if nx≤t∧t<nx+k.bs.length then (r[t - nx]?).bind e1 else e t)=some x
    rw [if_neg hh];exact p1
   ·refine p3.mono (fun t x q=>?_) (k5.block _ p2)
    show (if nx≤t∧t<nx+k.bs.length then (r[t - nx]?).bind e1 else e t)=some x
    rw [if_neg (hlow t x q)];exact q
 ·have old:∀ t c y,uni (shB nx k.bs nx m) f t=some c→¬ (nx≤t∧t<nx+k.bs.length)→(if nx≤t∧t<nx+k.bs.length then (r[t - nx]?).bind e1 else e t)=some y→e t=some y∧y.blk<w.heap.size:=by
   intro t c y p1 p2 p3
   rw [if_neg p2] at p3
   obtain ⟨x,s1,s2,_⟩:=hi.ok t c (hold t c p1 p2)
   rw [p3] at s1
   cases s1
   exact ⟨p3,s2⟩
  have new:∀ t y,(nx≤t∧t<nx+k.bs.length)→(if nx≤t∧t<nx+k.bs.length then (r[t - nx]?).bind e1 else e t)=some y→w.heap.size≤y.blk:=by
   intro t y p1 p2
   obtain ⟨_,_,x,_,_,p4,_,p6,_⟩:=hnew t p1
   have p4:(if nx≤t∧t<nx+k.bs.length then (r[t - nx]?).bind e1 else e t)=some x:=p4
   rw [p2] at p4
   cases p4
   exact p6
  by_cases hh:nx≤t∧t<nx+k.bs.length
  ·by_cases hh':nx≤t'∧t'<nx+k.bs.length
   ·exfalso
    obtain ⟨b,a1,x,_,p3,p4,p5,_,_,es,n,an,p8,_⟩:=hnew t hh
    obtain ⟨b',a1',x',_,p3',p4',p5',_,_,es',n',an',p8',_⟩:=hnew t' hh'
    have p4:(if nx≤t∧t<nx+k.bs.length then (r[t - nx]?).bind e1 else e t)=some x:=p4
    have p4':(if nx≤t'∧t'<nx+k.bs.length then (r[t' - nx]?).bind e1 else e t')=some x':=p4'
    have q5:(if nx≤t∧t<nx+k.bs.length then (r[t - nx]?).bind e1 else e t)=some y:=q5
    have q6:(if nx≤t'∧t'<nx+k.bs.length then (r[t' - nx]?).bind e1 else e t')=some y':=q6
    rw [p4] at q5
    cases q5
    rw [p4'] at q6
    cases q6
    have hne:a1≠a1':=fun z=>by
     subst z
     have:=kDis_is c3 _ _ _ p3 p3'
     omega
    have:=(k4.sep a1 a1' _ _ _ _ (uni_m p8) rfl (uni_m p8') hne p5 p5' q7).2.1
    simp [SB.live] at this
   ·exfalso
    have:=new t y hh q5
    have:=(old t' c' y' q3 hh' q6).2
    omega
  ·by_cases hh':nx≤t'∧t'<nx+k.bs.length
   ·exfalso
    have:=new t' y' hh' q6
    have:=(old t c y q1 hh q5).2
    omega
   ·exact hi.sep t t' c c' y y' (hold t c q1 hh) q2 (hold t' c' q3 hh') q4 (old t c y q1 hh q5).1 (old t' c' y' q3 hh' q6).1 q7
 ·exact ⟨k5.os,k5.tape,k5.output,k5.size,fun j hj=>k5.block j (Nat.lt_of_lt_of_le hj hi.base)⟩
 ·rw [shB_get] at ht
  by_cases hh:nx≤t∧t<nx+k.bs.length
  ·cases q:f t with
   | none=>rfl
   | some c =>
    obtain ⟨x,p1,_⟩:=hi.ok t c (uni_f hd q)
    exact absurd hh (hlow t x p1)
  ·rw [if_neg hh] at ht
   exact hd t ht
end NE
end Go.Proofs.YtlkagbbbhkkogaaGreatDoor
