/- Parts of a proof: The evaluator: what is known of a call: L22b.; The evaluator: what is known of a call: P24.; The evaluator: functions that defer one closure which does nothing.; direct.machine.run defers a closure that, where nothing panics, does nothing.; The evaluator: awake. -/
import Derived.Test.YtlkagbbbhkkogaaGreatDoorKLKDir5
import Derived.Defers
import Derived.Recover
import Derived.Test.YtlkagbbbhkkogaaGreatDoorProg
import Derived.Tactics
set_option maxRecDepth 100000
set_option maxHeartbeats 4000000
namespace Go.Proofs.YtlkagbbbhkkogaaGreatDoor
namespace NE
theorem kL22b_s:KnS Tryz.prog kL22b:=kn_of (evF_s (H:=hnt) (K:=[kPrims,kP06b]) hm_s hN_s (by simp only [List.mem_cons,List.not_mem_nil,or_false,forall_eq_or_imp,forall_eq];exact ⟨kPrims_s,kP06b_s⟩) 100) (r:=rL22b) (by kernel_rfl)
end NE
namespace NE
theorem kP24_s:KnS Tryz.prog kP24:=kn_of (evF_s (H:=hnt) (K:=[kPrims,kL22b]) hm_s hN_s (by simp only [List.mem_cons,List.not_mem_nil,or_false,forall_eq_or_imp,forall_eq];exact ⟨kPrims_s,kL22b_s⟩) 100) (r:=rP24) (by kernel_rfl)
end NE
open Go.RowKit
namespace NE
section
variable {P:Program} {call:CallF}
def Idle0 (P:Program) (g:FuncId):Prop:=Enters P g∧∀ (args:Array Value) (w:World),args.size=1→CallsD P g args .returning w fun e u' w'=>(∃ v,e=.returned v)∧u'=.returning∧w'=w
theorem dfr_is {I:List FuncId} {n kp:Nat} {ops:List Oper} (h:dfr I n kp ops=true):∃ (d:Nat) (g:FuncId) (fs cs:Array Operand) (ty1:TypeId) (pos1:String) (af1:Array Edge) (ts:Array TypeId) (ty2:TypeId) (pos2:String) (af2:Array Edge),
    ops=[⟨some d,.makeFunc (.func g) fs cs,ty1,pos1,af1,none⟩,⟨none,.defer ⟨.value (.tmp d),#[],ts⟩,ty2,pos2,af2,none⟩]∧kp.testBit d=false∧d<n∧fs.size+cs.size=1∧g∈I:=by
 unfold dfr at h
 split at h
 ·rename_i d g fs cs ty1 pos1 af1 x xas ts ty2 pos2 af2
  obtain ⟨h1,hA⟩:=Za h
  clear h
  have h1:=Nat.eq_of_beq_eq_true h1
  subst h1
  cases h2:Nat.testBit kp d
  ·rw [h2] at hA
   obtain ⟨h3,hB⟩:=Za (show bcd (Nat.blt d n) (bcd (Nat.beq xas.size 0) (bcd (Nat.beq (Nat.add fs.size cs.size) 1) (List.rec false (fun k _ ih=>bcd (Nat.beq k g) true ih) I) false) false) false=true from hA)
   clear hA
   obtain ⟨h4,hC⟩:=Za hB
   clear hB
   obtain ⟨h5,h6⟩:=Za hC
   clear hC
   have h4:=Nat.eq_of_beq_eq_true h4
   have hx:xas=#[]:=Array.eq_empty_of_size_eq_zero h4
   subst hx
   refine ⟨d,g,fs,cs,ty1,pos1,af1,ts,ty2,pos2,af2,rfl,h2,by rw [Nat.blt_eq] at h3;exact h3,Nat.eq_of_beq_eq_true h5,?_⟩
   clear h5 h3 h4 h2
   induction I with
   | nil=>cases h6
   | cons k I ih =>
    have h6:bcd (Nat.beq k g) true (List.rec false (fun k _ ih=>bcd (Nat.beq k g) true ih) I)=true:=h6
    cases q:Nat.beq k g
    ·rw [q] at h6
     exact List.mem_cons_of_mem _ (ih h6)
    ·rw [Nat.eq_of_beq_eq_true q];simp
  ·rw [h2] at hA;cases hA
 ·cases h
def IdleD (P:Program) (d:Deferred):Prop:=∃ fv cap f args,d.target=.fn fv cap∧(∀ w,(invoke d.target d.args).run P w=.ok (.enter f args) w)∧∀ w,CallsD P f args .returning w fun e u' w'=>(∃ v,e=.returned v)∧u'=.returning∧w'=w
theorem dfr_wp {I:List FuncId} {n kp id:Nat} {ops:Array Oper} (h:dfr I n kp ops.toList=true) (hI:∀ g∈I,Idle0 P g) {Q:Exit→Act→World→Prop} {a:Act} {w:World} (hsz:a.tmps.size=n) (hQ:∀ d u dd,kp.testBit d=false→d<n→IdleD P dd→Q .normal (Act.put { (a.put (some d) u) with defers:=dd::a.defers } none undef) w):(Code.region id ops false).wp P Q a w:=by
 obtain ⟨d,g,fs,cs,ty1,pos1,af1,ts,ty2,pos2,af2,ho,hd,hn,hs,hg⟩:=dfr_is h
 have ho:ops=#[⟨some d,.makeFunc (.func g) fs cs,ty1,pos1,af1,none⟩,⟨none,.defer ⟨.value (.tmp d),#[],ts⟩,ty2,pos2,af2,none⟩]:=by
  cases ops with
  | mk l=>simp at ho;rw [ho]
 subst ho
 obtain ⟨he,hid⟩:=hI g hg
 refine wp_region ?_
 have hr1:∀ w:World,(execOp a.eval ⟨some d,.makeFunc (.func g) fs cs,ty1,pos1,af1,none⟩).run P w=.ok (.value (.func (.func g) (fs.toList.map a.eval).toArray (cs.toList.map a.eval).toArray)) w:=fun w=>by
  obtain ⟨fs⟩:=fs
  obtain ⟨cs⟩:=cs
  simp [execOp,Instr.makeFunc]
 show wpOps P _ Q [0,1] a w
 rw [wpOps]
 simp only [List.getElem?_toArray,List.getElem?_cons_zero]
 rw [if_pos (by simp [Region.wanted])]
 refine .inl (wp_val (hr1 w) ?_)
 rw [wpOps]
 simp only [List.getElem?_toArray,List.getElem?_cons_succ,List.getElem?_cons_zero]
 rw [if_pos (by simp [Region.wanted])]
 refine .inl ?_
 have hev:∀ u:Value,(a.put (some d) u).eval (.tmp d)=u:=fun u=>by
  simp [Act.eval,Act.put,Array.getD_eq_getD_getElem?,show d<a.tmps.size by omega]
 generalize hu:(.func (.func g) (fs.toList.map a.eval).toArray (cs.toList.map a.eval).toArray:Value)=u
 have hu2:=hev u
 unfold Oper.wp
 have e:(execOp (a.put (some d) u).eval ⟨none,.defer ⟨.value (.tmp d),#[],ts⟩,ty2,pos2,af2,none⟩).run P w=.ok (.defer ⟨.fn (.func g) (cs.toList.map a.eval).toArray,(fs.toList.map a.eval).toArray⟩) w:=by
  subst hu
  simp only [execOp,resolve,hu2,Deferred.ofValue,Sem.run_bind,Sem.run_pure,Result.andThen_ok]
  simp
 rw [e]
 refine hQ d u _ hd hn ⟨.func g,_,g,(fs.toList.map a.eval).toArray++(cs.toList.map a.eval).toArray,rfl,fun w=>by simp only [invoke];exact he _ _,fun w=>hid _ w (by simp;omega)⟩
theorem evD_s (hm : P.follows .mixedOrders = true) (hN : ∀ (f : FuncId) (fn : Func), P.funcs[f]? = some fn → (fn.name == "runtime.NumGoroutine") = false) (hc : CallS P call) {I : List FuncId} (hI : ∀ g ∈ I, Idle0 P g) {H : Tr Hint} {fid : FuncId} {vs : List SV} {m m' : SM} {nx nx' : Nat} {v : SV} (h : evD P H call I fid vs m nx = .ok v m' nx') :
    nx≤nx'∧Enters P fid∧∀ (B:Nat) (e:Env) (f:Mu) (w:World) (us:List Value),Glob e→Disj m f→Fr e nx nx'→NInv B e (uni m f) w→RVs e vs us→Calls P fid us.toArray w (fun en w'=>∃ u,en=.returned u∧Aft B e f nx w v m' nx' u w'):=by
 unfold evD at h
 obtain ⟨fn,h1,h⟩:=Zd h
 obtain ⟨hh,h3,h⟩:=Zd h
 split at h
 rotate_left
 ·cases h
 rename_i ca id ops cr h2
 cases hb:bcd (dfr I fn.ntmps hh.kp ops.toList) (bcd (Nat.ble (len vs) fn.ntmps) (sub (Nat.sub (Nat.shiftLeft 1 (len vs)) 1) hh.kp) false) false with
 | false=>rw [hb] at h;exact absurd (show AR.no [53,fid]=.ok v m' nx' from h) (by simp)
 | true =>
 rw [hb] at h
 obtain ⟨b0,b12⟩:=Za hb
 obtain ⟨b1,b2⟩:=Za b12
 rw [Zi] at b1 b2
 have b1:=Nat.le_of_ble_eq_true b1
 generalize hev:evC 1000000 ca P call fn.ntmps hh (args0 vs 0 .e) m nx=r at h
 cases r with
 | no e=>exact absurd (show AR.no (2000::fid::e)=.ok v m' nx' from h) (by simp)
 | ok x0 s1 m1 n1 =>
 cases x0 with
 | exit id=>exact absurd (show AR.no [39]=.ok v m' nx' from h) (by simp)
 | ret=>exact absurd (show AR.no [39]=.ok v m' nx' from h) (by simp)
 | nor =>
 have h:AS.rec (motive:=fun _=>AR) (fun e s m' nx'=>Ex.rec (orec (resF P fn.results.toList s m') (.no [40,fid]) fun l=>.ok (oneF l) m' nx') (fun _=>.no [39]) (orec (resF P fn.results.toList s m') (.no [40,fid]) fun l=>.ok (oneF l) m' nx') e) (fun e=>.no (2000::fid::e)) (evC 1000000 cr P call fn.ntmps hh s1 m1 n1)=.ok v m' nx':=h
 generalize hev2:evC 1000000 cr P call fn.ntmps hh s1 m1 n1=r at h
 cases r with
 | no e=>exact absurd (show AR.no (2000::fid::e)=.ok v m' nx' from h) (by simp)
 | ok x s m2 n2 =>
 have hdom:Dom hh.kp (args0 vs 0 .e):=by
  intro t ht
  rw [args0_get] at ht
  by_cases q:0≤t∧t<0+vs.length
  ·exact low_bits b2 (by omega)
  ·rw [if_neg q,get_e] at ht;simp at ht
 obtain ⟨k0,_,⟨k1,k2⟩,_⟩:=evC_s hm hc _ ca fn.ntmps hh _ m nx .nor s1 m1 n1 hev hdom
 obtain ⟨_,_,⟨j1,j2⟩,_⟩:=evC_s hm hc _ cr fn.ntmps hh _ m1 n1 x s m2 n2 hev2 k0
 have hres:(x=.nor∨x=.ret)∧∃ l,resF P fn.results.toList s m2=some l∧v=oneF l∧m'=m2∧nx'=n2:=by
  have go:(orec (resF P fn.results.toList s m2) (.no [40,fid]) fun l=>.ok (oneF l) m2 n2)=AR.ok v m' nx'→∃ l,resF P fn.results.toList s m2=some l∧v=oneF l∧m'=m2∧nx'=n2:=by
   intro q
   obtain ⟨l,q1,q2⟩:=Zd q
   cases q2
   exact ⟨l,q1,rfl,rfl,rfl⟩
  cases x with
  | nor=>exact ⟨.inl rfl,go h⟩
  | ret=>exact ⟨.inr rfl,go h⟩
  | exit id=>exact absurd (show AR.no [39]=.ok v m' nx' from h) (by simp)
 obtain ⟨hx,l,r1,rfl,rfl,rfl⟩:=hres
 refine ⟨Nat.le_trans k1 j1,enters_of h1 (hN _ _ h1) (by rw [h2];rfl),fun B e f w us hg hdj hfr hi hr=>calls_of_wp_defers h1 h2 ?_⟩
 have hlen:=hr.len
 refine wp_seq (k2 B e f _ w hg hdj (hfr.left j1) hi (fun t u hu=>?_) ?_ _ fun a1 w1 e1 hL=>?_)
 ·rw [lc_nil,args0_get] at hu
  by_cases q:0≤t∧t<0+vs.length
  ·rw [if_pos q] at hu
   obtain ⟨y,g1,g2⟩:=hr.get hu
   have hlt:t<us.length:=by omega
   refine ⟨by simp;omega,?_⟩
   have:(us.toArray++Array.replicate (fn.ntmps - us.toArray.size) undef).getD t undef=y:=by
    rw [Array.getD_eq_getD_getElem?,Array.getElem?_append_left (by simpa using hlt)]
    simp at g1 ⊢
    rw [g1];rfl
   show RV e u ((us.toArray++Array.replicate (fn.ntmps - us.toArray.size) undef).getD t undef)
   rw [this];exact g2
  ·rw [if_neg q,get_e] at hu;cases hu
 ·simp;omega
 ·have hsz:a1.tmps.size=fn.ntmps:=by rw [hL.size];simp;omega
  refine wp_seq (dfr_wp (n:=fn.ntmps) b0 hI hsz fun d u dd hd hn hdd=>?_)
  have hlk:Look e1 .nil s1 (Act.put { (a1.put (some d) u) with defers:=dd::a1.defers } none undef):=by
   intro t y hy
   rw [lc_nil] at hy
   have hne:t≠d:=fun q=>by
    have:=k0 t (by rw [hy];rfl)
    rw [q,hd] at this;cases this
   have:=(hL.look.put (d:=some d) (v:=.v u) (u:=u) (fun t q=>by cases q;omega) (.v u)) t y (by
    show Lc.get (.cons d (.v u) .nil) s1 t=some y
    rw [lc_cons,if_neg (fun q=>hne q.symm),lc_nil];exact hy)
   exact this
  refine j2 B e1 f _ w1 (hg.mono hL.ee) hL.disj (hfr.right k1 hL.out) hL.inv hlk ?_ _ fun a2 w2 e2 hM=>?_
  ·show (a1.put (some d) u).tmps.size=_
   rw [put_tmps];exact hsz
  ·obtain ⟨fv,cap,g,ar,d1,d2,d3⟩:=hdd
   obtain ⟨u,g1,g2⟩:=ress_run hM.inv hM.look r1
   have hds:a2.defers=[dd]:=by
    rw [hM.defs]
    show dd::a1.defers=[dd]
    rw [hL.defs]
   have hend:Leaves P fn a2.tmps (fun en w'=>∃ u,en=.returned u∧Aft B e f nx w (oneF l) m' nx' u w') a2.defers .returning w2:=by
    rw [hds]
    refine ⟨by simp,fv,cap,g,ar,d1,d2 w2,fun c cs hcm=>?_⟩
    obtain ⟨en,u',w',fr,⟨⟨y,rfl⟩,rfl,rfl⟩,q2,q3⟩:=d3 w2 c cs hcm
    exact ⟨.returned y,.returning,w',fr,⟨u,g2,u,rfl,e2,hL.ee.trans hM.ee,fun k hk=>by rw [hM.out k (by omega),hL.out k (by omega)],g1,hM.inv,hL.bel.trans hM.bel,hM.disj⟩,q2,q3⟩
   rcases hx with rfl|rfl <;> exact hend
theorem evG_s {H : Tr Hint} {K : List Kn} {D I : List FuncId} (hm : P.follows .mixedOrders = true) (hN : ∀ (f : FuncId) (fn : Func), P.funcs[f]? = some fn → (fn.name == "runtime.NumGoroutine") = false) (hK : ∀ k ∈ K, KnS P k) (hI : ∀ g ∈ I, Idle0 P g) : ∀ n, CallS P (evG P H K D I n)
 | 0=>fun fid vs m nx v m' nx' h=>absurd (show AR.no [36,fid]=.ok v m' nx' from h) (by simp)
 | n+1=>fun fid vs m nx v m' nx' h=>by
  have h:orec (knF K fid vs) (bcd (isIn fid D) (evD P H (evG P H K D I n) I fid vs m nx) (evB P H (evG P H K D I n) fid vs m nx)) (fun k=>bcd (gOk k.g m) (.ok (shV nx k.v) (shB nx k.bs nx m) (Nat.add nx (len k.bs))) (.no [87,fid]))=AR.ok v m' nx':=h
  cases q:knF K fid vs with
  | none =>
   rw [q,orec_none] at h
   cases q2:isIn fid D
   ·rw [q2] at h
    exact evB_s hm hN (evG_s hm hN hK hI n) h
   ·rw [q2] at h
    exact evD_s hm hN (evG_s hm hN hK hI n) hI h
  | some k =>
   rw [q,Zh] at h
   obtain ⟨g1,g2,g3⟩:=knF_is K k q
   refine hK k g1 fid vs m nx v m' nx' ?_
   show bcd (bcd (Nat.beq k.f fid) (bcd (SV.eqbs k.args vs) (gOk k.g m) false) false) _ _=_
   rw [g2,g3]
   cases hg:gOk k.g m
   ·rw [hg] at h
    exact absurd (show AR.no [87,fid]=.ok v m' nx' from h) (by simp)
   ·rw [hg] at h
    exact h
end
end NE
namespace NE
theorem idle24:∀ g∈[81],Idle0 Tryz.prog g:=by
 intro g hg
 rw [List.mem_singleton.1 hg]
 refine ⟨enters_of Tryz.func81 (by kernel_rfl) rfl,fun args w ha=>?_⟩
 obtain ⟨a0,rfl⟩:=Array.size_eq_one_iff.1 ha
 refine callsD_of_wpS Tryz.func81 rfl fun c₀ cs hu=>?_
 apply wpS_seq
 apply wpS_region
 simp [wpOpsS,go_sem,recoverD,hu,Exit.thenS]
 apply wpS_seq
 apply wpS_region
 simp [wpOpsS,go_sem,Exit.thenS]
 refine wpS_cond (t:=false) (by simp [Act.eval,Array.replicate]) ?_
 simp only [Bool.false_eq_true,if_false]
 refine wpS_of_wp (wp_skip ?_)
 cases c₀
 simp_all [bodyPostS,results,Tryz.f81]
end NE
end Go.Proofs.YtlkagbbbhkkogaaGreatDoor
namespace Go.Proofs.YtlkagbbbhkkogaaGreatDoor
namespace NE
theorem awake24_c:ACall Tryz.prog 13 [] [.fact KidF] (fun v M'=>v=.val (.bool true)∧M'=[.fact KidF]):=call_true (evG_s (H:=hnt) (K:=[kPrims,kP24]) (D:=[56]) (I:=[81]) hm_s hN_s (by simp only [List.mem_cons,List.not_mem_nil,or_false,forall_eq_or_imp,forall_eq];exact ⟨kPrims_s,kP24_s⟩) idle24 100) (by kernel_rfl)
end NE
end Go.Proofs.YtlkagbbbhkkogaaGreatDoor
