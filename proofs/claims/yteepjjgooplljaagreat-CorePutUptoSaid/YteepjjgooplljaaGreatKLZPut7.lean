/- CorePut (where what it reads is of bulk at most 1048576): an expression has the same type with more binds ahead; with a right type in the place of a variable it has its type with that. -/
import Derived.Test.YteepjjgooplljaaGreatKLZPut6
import Derived.Test.YteepjjgooplljaaGreatChecked
import Derived.Test.YteepjjgooplljaaGreatRows
set_option maxRecDepth 100000
set_option maxHeartbeats 4000000
namespace Go.Proofs.YteepjjgooplljaaGreat
mutual
def Co.put (o:Ty→Ty):Co→Co
 | .mk k s m t ts ks al bs=>.mk k s m (o t) (ts.map o) (Co.puts o ks) (Ca.puts o al) (Cb.puts o bs)
def Co.puts (o:Ty→Ty):List Co→List Co
 | []=>[]
 | x::l=>x.put o::Co.puts o l
def Ca.put (o:Ty→Ty):Ca→Ca
 | .mk q e=>.mk q (e.put o)
def Ca.puts (o:Ty→Ty):List Ca→List Ca
 | []=>[]
 | x::l=>x.put o::Ca.puts o l
def Cb.put (o:Ty→Ty):Cb→Cb
 | .mk s vs t e=>.mk s vs (o t) (e.put o)
def Cb.puts (o:Ty→Ty):List Cb→List Cb
 | []=>[]
 | x::l=>x.put o::Cb.puts o l
end
theorem Co.puts_map (o:Ty→Ty):∀ l:List Co,Co.puts o l=l.map (Co.put o)
 | []=>rfl
 | x::l=>by rw [Co.puts,Co.puts_map o l];rfl
theorem Ca.puts_map (o:Ty→Ty):∀ l:List Ca,Ca.puts o l=l.map (Ca.put o)
 | []=>rfl
 | x::l=>by rw [Ca.puts,Ca.puts_map o l];rfl
theorem Cb.puts_map (o:Ty→Ty):∀ l:List Cb,Cb.puts o l=l.map (Cb.put o)
 | []=>rfl
 | x::l=>by rw [Cb.puts,Cb.puts_map o l];rfl
structure EnV (v:En):Prop where
 con:∀ d∈v.da,∀ c∈d.cs,∀ t∈c.ts,t.vin d.ps
 met:∀ c∈v.cl,∀ m∈c.ms,m.t.vin [c.v]
def Cb.sg (x:ByteArray) (A:Ty):Cb→Cb
 | .mk s vs t e=>.mk s vs (Go.Proofs.YteepjjgooplljaaGreat.sg x A t) e
section
variable {v:En} {x:ByteArray} {A:Ty}
theorem conC_mem {s:ByteArray} {d:Da} {c:Cn} (h:conC s v.da=some (d,c)):d∈v.da∧c∈d.cs:=by
 obtain ⟨i,k,_,h2,h3⟩:=conJ_some (i0:=0) h
 exact ⟨We h2,We h3⟩
theorem starC_sg (s:ByteArray) (u:Ty):sg x A (starC s u)=starC s (sg x A u):=by
 unfold starC
 rw [sg_not (by decide)]
 rfl
theorem partsC_sg (hv:EnV v) {s:ByteArray} {u:Ty} {l:List Ty} (h:partsC v s u=some l):partsC v s (sg x A u)=some (l.map (sg x A)):=by
 unfold partsC at h ⊢
 by_cases q:classI v s<0
 ·rw [if_pos q] at h;simp at h
 rw [if_neg q] at h ⊢
 cases hc:v.cl[(classI v s).toNat]? with
 | none=>rw [hc] at h;simp at h
 | some c =>
  rw [hc] at h
  simp only [Option.some.injEq] at h
  subst h
  have e1:(c.su.map fun a=>starC a u).map (sg x A)=c.su.map fun a=>starC a (sg x A u):=by
   rw [List.map_map]
   exact List.map_congr_left fun a _=>starC_sg a u
  have e2:(c.ms.map fun m=>m.t.turn (putO [c.v] [u])).map (sg x A)=c.ms.map fun m=>m.t.turn (putO [c.v] [sg x A u]):=by
   rw [List.map_map]
   exact List.map_congr_left fun m hm=>Ty.turn_vin (ps:=[c.v]) (ts:=[u]) V m.t (hv.met c (We hc) m hm)
  simp only []
  rw [List.map_append,e1,e2]
theorem okL_sg {o:Ty→Ty} {f g:Co→Ty × Bool}:∀ {ks:List Co} {l:List Ty},(∀ y∈ks,(f y).2=true→g (y.put o)=(o (f y).1,true))→okL f ks l=true→okL g (Co.puts o ks) (l.map o)=true
 | [],[],_,_=>rfl
 | [],_::_,_,h=>by simp [okL] at h
 | _::_,[],_,h=>by simp [okL] at h
 | y::ys,t::ts,hg,h=>by
  rw [okL,Bool.and_eq_true,Bool.and_eq_true] at h
  obtain ⟨⟨h1,h2⟩,h3⟩:=h
  rw [Co.puts,List.map_cons,okL,hg y (by simp) h1,Bool.and_eq_true,Bool.and_eq_true]
  exact ⟨⟨V,(Ty.eqC_iff _ _).2 (by rw [(Ty.eqC_iff _ _).1 h2])⟩,okL_sg (fun z hz=>hg z (by simp [hz])) h3⟩
theorem map_turn_vin {ps:List ByteArray} {us l:List Ty} (hl:ps.length=us.length) (h:∀ t∈l,t.vin ps):(l.map (Ty.turn (putO ps us))).map (sg x A)=l.map (Ty.turn (putO ps (us.map (sg x A)))):=by
 rw [List.map_map]
 exact List.map_congr_left fun t ht=>Ty.turn_vin hl t (h t ht)
mutual
theorem patC_sg (hv:EnV v):∀ (q:Pa) (u:Ty) (l:List Cb),patC v q u=some l→patC v q (sg x A u)=some (l.map (Cb.sg x A))
 | .mk k s n ks p,u,l,h=>by
  rw [patC] at h ⊢
  by_cases k1:k=1
  ·rw [if_pos k1] at h ⊢;cases h;rfl
  rw [if_neg k1] at h ⊢
  by_cases k2:k=2
  ·rw [if_pos k2] at h ⊢;cases h;rfl
  rw [if_neg k2] at h ⊢
  by_cases k4:k=4
  ·rw [if_pos k4] at h ⊢
   by_cases q:u.eqC tInt=true
   ·rw [if_pos q] at h
    cases h
    have e1:sg x A u=tInt:=by rw [(Ty.eqC_iff _ _).1 q];exact sg_not (by decide)
    rw [e1,if_pos ((Ty.eqC_iff tInt tInt).2 rfl)]
    rfl
   rw [if_neg q] at h;simp at h
  rw [if_neg k4] at h ⊢
  cases hc:conC s v.da with
  | none=>rw [hc] at h;simp at h
  | some dc =>
   obtain ⟨d,c⟩:=dc
   rw [hc] at h
   simp only [] at h ⊢
   by_cases q:u.kind≠3∨u.name≠d.s∨u.kids.length≠d.ps.length∨ks.length≠c.ts.length
   ·rw [if_pos q] at h;simp at h
   rw [if_neg q] at h
   obtain ⟨uk,us,un,ul⟩:=u
   have q1:uk=3:=Classical.byContradiction fun k=>q (.inl k)
   have q3:ul.length=d.ps.length:=Classical.byContradiction fun k=>q (.inr (.inr (.inl k)))
   have hm:=conC_mem hc
   have IH:=patCs_sg hv ks _ l h
   replace IH:patCs v ks ((c.ts.map (Ty.turn (putO d.ps ul))).map (sg x A))=some (l.map (Cb.sg x A)):=IH
   rw [map_turn_vin (x:=x) (A:=A) q3.symm (hv.con d hm.1 c hm.2)] at IH
   rw [sg_not (by omega),if_neg (by
    intro k
    apply q
    simpa [Ty.kids,Ty.kind,Ty.name] using k)]
   exact IH
theorem patCs_sg (hv:EnV v):∀ (qs:List Pa) (ts:List Ty) (l:List Cb),patCs v qs ts=some l→patCs v qs (ts.map (sg x A))=some (l.map (Cb.sg x A))
 | [],ts,l,h=>by rw [patCs] at h ⊢;cases h;rfl;simp;simp
 | q::qs,[],l,h=>by rw [patCs] at h;rw [List.map_nil,patCs];cases h;rfl;simp;simp
 | q::qs,t::ts,l,h=>by
  rw [patCs] at h
  rw [List.map_cons,patCs]
  cases h1:patC v q t with
  | none=>rw [h1] at h;simp at h
  | some a =>
   rw [h1] at h
   simp only [] at h
   cases h2:patCs v qs ts with
   | none=>rw [h2] at h;simp at h
   | some b =>
    rw [h2] at h
    cases h
    rw [patC_sg hv q t a h1,patCs_sg hv qs ts b h2,List.map_append]
end
def ScR (x:ByteArray) (A:Ty) (sc sc':List Cb):Prop:=∀ s b,findL s sc=some b→x∉b.vs∧∃ b',findL s sc'=some b'∧b'.vs=b.vs∧b'.t=sg x A b.t
theorem findL_map {g:Cb→Cb} (s:ByteArray):∀ l:List Cb,(∀ b∈l,(g b).s=b.s)→findL s (l.map g)=(findL s l).map g
 | [],_=>rfl
 | b::l,h=>by
  rw [List.map_cons,findL,findL,findL_map s l (fun c hc=>h c (by simp [hc])),h b (by simp)]
  cases findL s l with
  | some c=>rfl
  | none =>
   simp only [Option.map_none]
   split <;> rfl
theorem ScR.app {sc sc' l:List Cb} (h:ScR x A sc sc') (g:Cb→Cb) (hg:∀ b∈l,(g b).s=b.s∧(g b).vs=b.vs∧(g b).t=sg x A b.t∧x∉b.vs):ScR x A (sc++l) (sc'++l.map g):=fun s b hb=>by
 rw [findL_app] at hb
 rw [findL_app,findL_map s l (fun c hc=>(hg c hc).1)]
 cases q:findL s l with
 | some c =>
  rw [q] at hb
  cases hb
  have hm:=hg b (findL_mem q)
  exact ⟨hm.2.2.2,g b,V,hm.2.1,hm.2.2.1⟩
 | none=>rw [q] at hb;exact h s b hb
theorem varC_put {sc sc':List Cb} {s:ByteArray} {ts:List Ty} (hA:A.vin []) (hs:ScR x A sc sc') (h:(varC sc s ts).2=true):varC sc' s (ts.map (sg x A))=(sg x A (varC sc s ts).1,true):=by
 unfold varC at h ⊢
 cases hf:findL s sc with
 | none=>rw [hf] at h;simp at h
 | some b =>
  rw [hf] at h
  obtain ⟨hx,b',hf',e1,e2⟩:=hs s b hf
  rw [hf']
  simp only [] at h ⊢
  by_cases q:b.vs.length=ts.length
  ·rw [if_pos q,if_pos (by rw [e1,List.length_map];exact q),e1,e2,← Ty.turn_comp hx hA q]
  rw [if_neg q] at h;simp at h
variable {f g:Co→Ty × Bool} {ks:List Co}
theorem conQ_put (hv:EnV v) {s:ByteArray} {ts:List Ty} (hg:∀ y∈ks,(f y).2=true→g (y.put (sg x A))=(sg x A (f y).1,true)) (h:(conQ v f s ts ks).2=true):conQ v g s (ts.map (sg x A)) (Co.puts (sg x A) ks)=(sg x A (conQ v f s ts ks).1,true):=by
 unfold conQ at h ⊢
 cases hc:conC s v.da with
 | none=>rw [hc] at h;simp at h
 | some dc =>
  rw [hc] at h
  simp only [] at h ⊢
  by_cases q:dc.1.ps.length=ts.length∧okL f ks (dc.2.ts.map (Ty.turn (putO dc.1.ps ts)))=true
  ·have hm:=conC_mem (d:=dc.1) (c:=dc.2) hc
   have H:=okL_sg hg q.2
   rw [map_turn_vin q.1 (hv.con _ hm.1 _ hm.2)] at H
   rw [if_pos q,if_pos ⟨by rw [List.length_map];exact q.1,H⟩,sg_not (by decide)]
  rw [if_neg q] at h;simp at h
theorem primQ_put {pm:List Pm} (hp:∀ p∈pm,p.sc.t.vin p.sc.vs) {m:Int} {ts:List Ty} (hg:∀ y∈ks,(f y).2=true→g (y.put (sg x A))=(sg x A (f y).1,true)) (h:(primQ pm f m ts ks).2=true):primQ pm g m (ts.map (sg x A)) (Co.puts (sg x A) ks)=(sg x A (primQ pm f m ts ks).1,true):=by
 unfold primQ at h ⊢
 by_cases q0:m<1∨pm.length<m
 ·rw [if_pos q0] at h;simp at h
 rw [if_neg q0] at h ⊢
 rw [if_neg q0]
 cases hc:pm[(m - 1).toNat]? with
 | none=>rw [hc] at h;simp at h
 | some p =>
  rw [hc] at h
  simp only [] at h ⊢
  have hv:=args_vin _ p.sc.t (Nat.le_refl _) (hp p (We hc))
  by_cases q:p.sc.vs.length=ts.length∧okL f ks (p.sc.t.args.map (Ty.turn (putO p.sc.vs ts)))=true
  ·have H:=okL_sg hg q.2
   rw [map_turn_vin q.1 hv.1] at H
   rw [if_pos q,if_pos ⟨by rw [List.length_map];exact q.1,H⟩]
   simp only []
   rw [← Ty.turn_vin q.1 _ hv.2]
  rw [if_neg q] at h;simp at h
theorem dictQ_put (hv:EnV v) {vs:List ByteArray} (hA:rightC v vs A=true) {s:ByteArray} {t:Ty} (hg:∀ y∈ks,(f y).2=true→g (y.put (sg x A))=(sg x A (f y).1,true)) (h:(dictQ v (x::vs) f s t ks).2=true):dictQ v vs g s (sg x A t) (Co.puts (sg x A) ks)=(sg x A (dictQ v (x::vs) f s t ks).1,true):=by
 unfold dictQ at h ⊢
 cases hc:partsC v s t with
 | none=>rw [hc] at h;simp at h
 | some l =>
  rw [hc] at h
  simp only [Bool.and_eq_true] at h
  rw [partsC_sg hv hc]
  simp only []
  rw [okL_sg hg h.2,rightC_sg hA t h.1,starC_sg]
  rfl
theorem appQ_put {a b:Ty × Bool} (h:(appQ a b).2=true):appQ (sg x A a.1,true) (sg x A b.1,true)=(sg x A (appQ a b).1,true):=by
 unfold appQ at h ⊢
 by_cases q1:a.2=true
 ·rw [if_pos q1] at h
  rw [if_pos q1,if_pos rfl]
  split at h
  ·rename_i c n a1 a2 he
   split at h
   ·rename_i q
    rw [Bool.and_eq_true] at q
    obtain ⟨r1,r2,r3⟩:=q
    rw [Ty.eqC_iff] at r3
    simp only [he] at r1 ⊢
    have e2:sg x A (.mk 3 c n [a1,a2])=.mk 3 c n [sg x A a1,sg x A a2]:=sg_not (by decide)
    have harg:(Ty.mk 3 c n [sg x A a1,sg x A a2]).args≠[]:=by
     rw [Ty.args] at r1 ⊢
     by_cases hk:(3:Int)=3∧c=arrow
     ·rw [if_pos hk];simp
     rw [if_neg hk] at r1;exact absurd rfl r1
    rw [e2]
    simp only []
    rw [if_pos ⟨harg,by rw [Bool.and_eq_true];exact ⟨rfl,(Ty.eqC_iff _ _).2 (by rw [r3])⟩⟩,if_pos ⟨r1,by rw [Bool.and_eq_true];exact ⟨r2,(Ty.eqC_iff _ _).2 r3⟩⟩]
   simp at h
  simp at h
 rw [if_neg q1] at h;simp at h
theorem selQ_put (hv:EnV v) {s:ByteArray} {m:Int} {r:Ty × Bool} (h:(selQ v s m r).2=true):selQ v s m (sg x A r.1,true)=(sg x A (selQ v s m r).1,true):=by
 obtain ⟨⟨k,c,n,l⟩,b⟩:=r
 unfold selQ at h ⊢
 split at h
 ·rename_i c' n' u he
  cases he
  simp only []
  have e2:sg x A (.mk 3 c n [u])=.mk 3 c n [sg x A u]:=sg_not (by decide)
  rw [e2]
  simp only []
  by_cases q:c=kBr++s
  ·rw [if_pos q] at h
   rw [if_pos q,if_pos q]
   cases hc:partsC v s u with
   | none=>rw [hc] at h;simp at h
   | some l =>
    rw [hc] at h
    rw [partsC_sg hv hc]
    simp only [] at h ⊢
    by_cases q2:m<0
    ·rw [if_pos q2] at h;simp at h
    rw [if_neg q2] at h
    rw [if_neg q2,if_neg q2,List.getElem?_map]
    cases hl:l[m.toNat]? with
    | none=>rw [hl] at h;simp at h
    | some w=>rfl
  rw [if_neg q] at h;simp at h
 simp at h
theorem bindC_put {F:List Cb→List ByteArray→Co→Ty × Bool} {sc sc':List Cb} {vs:List ByteArray} (hA:rightC v [] A=true) {b:Cb} (hF:(F sc (x::(vs++b.vs)) b.e).2=true→F sc' (vs++b.vs) (b.e.put (sg x A))=(sg x A (F sc (x::(vs++b.vs)) b.e).1,true)) (h:bindC F v sc (x::vs) b=true):bindC F v sc' vs (b.put (sg x A))=true∧x∉b.vs:=by
 obtain ⟨s,us,t,e⟩:=b
 simp only [bindC,Cb.put,Cb.vs,Cb.t,Cb.e,List.cons_append,Bool.and_eq_true] at h hF ⊢
 obtain ⟨⟨h1,h2⟩,h3,h4,h5⟩:=h
 rw [hF h4]
 refine ⟨⟨⟨h1,?_⟩,rightC_sg (rightC_more _ hA) t h3,V,(Ty.eqC_iff _ _).2 (by rw [(Ty.eqC_iff _ _).1 h5])⟩,?_⟩
 ·rw [List.all_eq_true] at h2 ⊢
  intro y hy
  have:=h2 y hy
  simp only [Bool.not_eq_true',← Bool.not_eq_true,hasB_iff,List.mem_cons,not_or] at this ⊢
  exact this.2
 intro hx
 have:=(List.all_eq_true.1 h2) x hx
 have h9:hasB (x::vs) x=true:=hasB_iff.2 (by simp)
 rw [h9] at this
 simp at this
theorem altQ_put (hv:EnV v) {F:List Cb→List ByteArray→Co→Ty × Bool} {sc sc':List Cb} {vs:List ByteArray} {t u:Ty} {a:Ca} (hF:∀ l,patC v a.q u=some l→(F (sc++l) (x::vs) a.e).2=true→F (sc'++l.map (Cb.sg x A)) vs (a.e.put (sg x A))=(sg x A (F (sc++l) (x::vs) a.e).1,true)) (h:altQ v F sc (x::vs) t u a=true):altQ v F sc' vs (sg x A t) (sg x A u) (a.put (sg x A))=true:=by
 obtain ⟨q,e⟩:=a
 simp only [Ca.q,Ca.e] at hF
 simp only [altQ,Ca.put,Ca.q,Ca.e] at h ⊢
 cases hp:patC v q u with
 | none=>rw [hp] at h;simp at h
 | some l =>
  rw [hp] at h
  rw [patC_sg hv q u l hp]
  simp only [Bool.and_eq_true] at h ⊢
  rw [hF l hp h.2.1]
  exact ⟨h.1,V,(Ty.eqC_iff _ _).2 (by rw [(Ty.eqC_iff _ _).1 h.2.2])⟩
end
open Go.RowKit
mutual
def Co.Wd:Co→Prop
 | .mk _ _ _ t ts ks al bs=>t.wd∧(∀ u∈ts,u.wd)∧Co.Wds ks∧Ca.Wds al∧Cb.Wds bs
def Co.Wds:List Co→Prop
 | []=>True
 | x::xs=>x.Wd∧Co.Wds xs
def Ca.Wd:Ca→Prop
 | .mk _ e=>e.Wd
def Ca.Wds:List Ca→Prop
 | []=>True
 | x::xs=>x.Wd∧Ca.Wds xs
def Cb.Wd:Cb→Prop
 | .mk _ _ t e=>t.wd∧e.Wd
def Cb.Wds:List Cb→Prop
 | []=>True
 | x::xs=>x.Wd∧Cb.Wds xs
end
theorem Co.wds_iff:∀ l:List Co,Co.Wds l↔∀ x∈l,x.Wd
 | []=>by simp [Co.Wds]
 | x::l=>by simp [Co.Wds,Co.wds_iff l]
theorem Co.Ns_len':∀ l:List Co,l.length≤Co.Ns l
 | []=>Nat.le_refl _
 | x::l=>by
  have h:=Co.Ns_len' l
  have hx:1≤x.N:=by cases x;rw [Co.N];omega
  rw [Co.Ns,List.length_cons];omega
theorem Co.puts_snoc (o:Ty→Ty) (l:List Co) (x:Co):Co.puts o (l++[x])=Co.puts o l++[x.put o]:=by rw [Co.puts_map,Co.puts_map,List.map_append];rfl
theorem Ca.wds_iff:∀ l:List Ca,Ca.Wds l↔∀ x∈l,x.Wd
 | []=>by simp [Ca.Wds]
 | x::l=>by simp [Ca.Wds,Ca.wds_iff l]
theorem Ca.Ns_len':∀ l:List Ca,l.length≤Ca.Ns l
 | []=>Nat.le_refl _
 | x::l=>by
  have h:=Ca.Ns_len' l
  have hx:1≤x.N:=by cases x;rw [Ca.N];omega
  rw [Ca.Ns,List.length_cons];omega
theorem Ca.puts_snoc (o:Ty→Ty) (l:List Ca) (x:Ca):Ca.puts o (l++[x])=Ca.puts o l++[x.put o]:=by rw [Ca.puts_map,Ca.puts_map,List.map_append];rfl
theorem Cb.wds_iff:∀ l:List Cb,Cb.Wds l↔∀ x∈l,x.Wd
 | []=>by simp [Cb.Wds]
 | x::l=>by simp [Cb.Wds,Cb.wds_iff l]
theorem Cb.Ns_len':∀ l:List Cb,l.length≤Cb.Ns l
 | []=>Nat.le_refl _
 | x::l=>by
  have h:=Cb.Ns_len' l
  have hx:1≤x.N:=by cases x;rw [Cb.N];omega
  rw [Cb.Ns,List.length_cons];omega
theorem Cb.puts_snoc (o:Ty→Ty) (l:List Cb) (x:Cb):Cb.puts o (l++[x])=Cb.puts o l++[x.put o]:=by rw [Cb.puts_map,Cb.puts_map,List.map_append];rfl
mutual
theorem Co.Okk.wd:∀ {e:Co},e.Okk→e.Wd
 | .mk _ _ _ _ _ _ _ _,h=>by
  rw [Co.Okk] at h
  rw [Co.Wd]
  obtain ⟨h1,h2,h3,h4,h5⟩:=h
  exact ⟨h1.1,fun u hu=>(h2 u hu).1,Co.Okks.wd h3,Ca.Okks.wd h4,Cb.Okks.wd h5⟩
theorem Co.Okks.wd:∀ {l:List Co},Co.Okks l→Co.Wds l
 | [],_=>trivial
 | _::_,h=>⟨h.1.wd,Co.Okks.wd h.2⟩
theorem Ca.Okks.wd:∀ {l:List Ca},Ca.Okks l→Ca.Wds l
 | [],_=>trivial
 | .mk _ e::_,h=>⟨Co.Okk.wd (e:=e) h.1,Ca.Okks.wd h.2⟩
theorem Cb.Okks.wd:∀ {l:List Cb},Cb.Okks l→Cb.Wds l
 | [],_=>trivial
 | .mk _ _ _ e::_,h=>⟨⟨h.1.1.1,Co.Okk.wd (e:=e) h.1.2⟩,Cb.Okks.wd h.2⟩
end
abbrev zCo:List AV:=[.val (.int .i64 0),.val (.string ⟨#[]⟩),.val (.int .i64 0),.val (.int .i64 0),.val (.string ⟨#[]⟩),.val (.int .i64 0),.val (.slice none 0 0),.val (.slice none 0 0),.val (.slice none 0 0),.val (.slice none 0 0),.val (.slice none 0 0)]
theorem rPutC_c (names:List ByteArray) (hnm:names.length≤1000000) (ts:List Ty) (d:Nat):∀ e:Co,e.size≤d→e.N≤9000000→e.Sz→e.Wd→PCall Tryz.prog 22 [.seq 1 (strs names),.seq 4 (Ty.cellss ts),.agg e.cells] (.agg (e.put (Ty.turn (putO names ts))).cells):=by
 induction d with
 | zero=>intro e hd;cases e;rw [Co.size] at hd;omega
 | succ d ih =>
  rintro ⟨k,s,n,⟨tk,tn,tm,tl⟩,us,ks,al,bs⟩ hd hN hz hw
  rw [Co.size] at hd
  rw [Co.N] at hN
  rw [Co.Sz] at hz
  rw [Co.Wd] at hw
  obtain ⟨hzs,hzu,hzk,hza,hzb⟩:=hz
  obtain ⟨hwt,hwu,hwk,hwa,hwb⟩:=hw
  have hlu:=Ty.cellss_len us
  have hlk:=Co.cellss_len ks
  have hla:=Ca.cellss_len al
  have hlb:=Cb.cellss_len bs
  have hnk:=Co.Ns_len' ks
  have hna:=Ca.Ns_len' al
  have hnb:=Cb.Ns_len' bs
  have HP:=fun (t:Ty) (ht:t.wd)=>rPutW_c names hnm ts t.size t (Nat.le_refl _) ht
  have HT:=HP ⟨tk,tn,tm,tl⟩ hwt
  rw [Co.put]
  generalize Ty.turn (putO names ts)=o at *
  obtain ⟨⟨rk,rs,rn,rl⟩,hr⟩:∃ r,o ⟨tk,tn,tm,tl⟩=r:=⟨_,rfl⟩
  rw [hr] at HT ⊢
  refine Zc Tryz.func22 V (by kernel_rfl) V (Xz V) ?_
  refine Q517 ?_
  refine Q133 ?_;intro b6
  refine Q241 ?_
  refine c_drawnEF [0,1,2,3,4,5,6,7,8,9,10,11,12,13] [12,13] [[],[0],[],[2],[],[4],[],[],[],[8],[6,7,8,9],[0,1,2,3,4,5,6,7,8,9,10],[],[0,1,2,3,4,5,6,7,8,9,10,11,12]] 12 (cs0:=[_,_,_,_,_,_,_,_,_,_,_]) Xl V V V V tz_29 V V (EOpsF.d 13 (none) (i:=0) V V V V V V (Xe V tf_29_0 V V ⟨V,V⟩) ?_)
  refine EOpsF.d 14 (none) (i:=1) V V V V V V (op_load_c1 V ta_3 V V ⟨V,V⟩) ?_
  refine EOpsF.d 15 (none) (i:=2) V V V V V V (Xe V tf_29_1 V V ⟨V,V⟩) ?_
  refine EOpsF.d 16 (none) (i:=3) V V V V V V (op_load_c1 V ta_9 V V ⟨V,V⟩) ?_
  refine EOpsF.d 17 (none) (i:=4) V V V V V V (Xe V tf_29_2 V V ⟨V,V⟩) ?_
  refine EOpsF.d 18 (none) (i:=5) V V V V V V (op_load_c1 V ta_2 V V ⟨V,V⟩) ?_
  refine EOpsF.d 19 (none) (i:=6) V V V V V V (op_move V V ⟨V,V⟩) ?_
  refine EOpsF.d 20 (none) (i:=7) V V V V V V (op_move V V ⟨V,V⟩) ?_
  refine EOpsF.d 21 (none) (i:=8) V V V V V V (Xe V tf_29_3 V V ⟨V,V⟩) ?_
  refine EOpsF.d 22 (none) (i:=9) V V V V V V (Yb (cs':=[_,_,_,_]) V Yi V V V ⟨V,V⟩) ?_
  refine EOpsF.d 23 (none) (i:=10) V V V V V V (Zd (xs:=[.tmp 19,.tmp 20,.tmp 22]) V V (HT) by1 ⟨V,V⟩) ?_
  refine EOpsF.d 24 (none) (i:=11) V V V V V V (Zp (ns:=[0,1,2,3]) (xs:=[.tmp 14,.tmp 16,.tmp 18,.tmp 23]) V tz_29 V tfl_29 V V V V ⟨V,V⟩) ?_
  refine EOpsF.free (i:=12) V V V ?_;intro b7
  refine EOpsF.w 1 (i:=13) V V V V V V (Zu (cs':=[_,_,_,_,_,_,_,_,_,_,_]) (i:=0) V ts_29 V V V V V (Xz V) V ⟨_,V,?_⟩)
  show AGo _ _ _ _ _ _ _
  refine Q373 ?_
  refine Q304 ?_
  refine Yv 24 4 (Yv 29 11 (Yv 69 16 (Yv 46 17 ?_)))
  apply Ym (rg [(2,3),(8,1),(13,32)]) (σ:=Nat × Value × Value × Value × Value) (fun zz=>match zz with|(i,u1,u2,u3,u4)=>[(8,.val (.int .i64 i))]) (fun zz=>match zz with|(i,u1,u2,u3,u4)=>[.loc b6 zCo,.loc b7 [.val (.int .i64 k),.val (.string s),.val (.int .i64 n),.val (.int .i64 rk),.val (.string rs),.val (.int .i64 rn),.seq 4 (Ty.cellss rl),.own u1 4 (Ty.cellss ((us.take i).map o)),.own u2 11 [],.own u3 16 [],.own u4 17 []],.own 24 4 u1,.own 29 11 u2,.own 69 16 u3,.own 46 17 u4]) (fun zz=>match zz with|(i,u1,u2,u3,u4)=>i≤us.length) (fun zz=>match zz with|(i,u1,u2,u3,u4)=>us.length - i) ((0,.slice none 0 0,.slice none 0 0,.slice none 0 0,.slice none 0 0))
  ·repeat' (first|exact Wc|apply Wa rfl|apply Wb rfl)
  ·exact Nat.zero_le _
  ·exact by4
  ·exact (Xr _ (Xu _) (Xr _ (Xv (Xt _) (Xv (Xt _) (Xv (Xt _) (Xv (Xt _) (Xv (Xt _) (Xv (Xt _) (Xv (Xt _) (Xv (Le.nilOwn 4) (Xv (Le.nilOwn 11) (Xv (Le.nilOwn 16) (Xv (Le.nilOwn 17) (Xu _)))))))))))) (Xs V)))
  rintro ⟨i,u1,u2,u3,u4⟩ hI
  try dsimp only [List.cons_append,List.nil_append] at hI ⊢
  refine Q339 ?_
  refine Q47 ?_;intro n28
  refine Q19 ?_;intro c29 h29
  refine Q226 ?_
  rcases Za h29 with ⟨rfl,g29⟩|⟨rfl,g29⟩
  ·refine Q347 ?_
   rw [List.take_of_length_le (by omega)]
   refine Q332 ?_
   apply Ym (rg [(2,3),(8,2),(13,16),(30,35)]) (σ:=Nat × Value) (fun zz=>match zz with|(i,u5)=>[(9,.val (.int .i64 i))]) (fun zz=>match zz with|(i,u5)=>[.loc b6 zCo,.loc b7 [.val (.int .i64 k),.val (.string s),.val (.int .i64 n),.val (.int .i64 rk),.val (.string rs),.val (.int .i64 rn),.seq 4 (Ty.cellss rl),.own u1 4 (Ty.cellss (us.map o)),.own u5 11 (Co.cellss (Co.puts o (ks.take i))),.own u3 16 [],.own u4 17 []],.own 24 4 u1,.own 29 11 u5,.own 69 16 u3,.own 46 17 u4]) (fun zz=>match zz with|(i,u5)=>i≤ks.length) (fun zz=>match zz with|(i,u5)=>ks.length - i) ((0,u2))
   ·repeat' (first|exact Wc|apply Wa rfl|apply Wb rfl)
   ·exact Nat.zero_le _
   ·exact by4
   ·exact (Xs V)
   rintro ⟨i,u5⟩ hI
   try dsimp only [List.cons_append,List.nil_append] at hI ⊢
   refine Q339 ?_
   refine Q68 ?_;intro n48
   refine Q19 ?_;intro c49 h49
   refine Q226 ?_
   rcases Za h49 with ⟨rfl,g49⟩|⟨rfl,g49⟩
   ·refine Q347 ?_
    rw [List.take_of_length_le (by omega)]
    refine Q332 ?_
    apply Ym (rg [(2,3),(8,3),(13,16),(30,63)]) (σ:=Nat × Value) (fun zz=>match zz with|(i,u6)=>[(10,.val (.int .i64 i))]) (fun zz=>match zz with|(i,u6)=>[.loc b6 zCo,.loc b7 [.val (.int .i64 k),.val (.string s),.val (.int .i64 n),.val (.int .i64 rk),.val (.string rs),.val (.int .i64 rn),.seq 4 (Ty.cellss rl),.own u1 4 (Ty.cellss (us.map o)),.own u5 11 (Co.cellss (Co.puts o ks)),.own u6 16 (Ca.cellss (Ca.puts o (al.take i))),.own u4 17 []],.own 24 4 u1,.own 29 11 u5,.own 69 16 u6,.own 46 17 u4]) (fun zz=>match zz with|(i,u6)=>i≤al.length) (fun zz=>match zz with|(i,u6)=>al.length - i) ((0,u3))
    ·repeat' (first|exact Wc|apply Wa rfl|apply Wb rfl)
    ·exact Nat.zero_le _
    ·exact by4
    ·exact (Xs V)
    rintro ⟨i,u6⟩ hI
    try dsimp only [List.cons_append,List.nil_append] at hI ⊢
    refine Q339 ?_
    refine Q125 ?_;intro n68
    refine Q19 ?_;intro c69 h69
    refine Q226 ?_
    rcases Za h69 with ⟨rfl,g69⟩|⟨rfl,g69⟩
    ·refine Q347 ?_
     rw [List.take_of_length_le (by omega)]
     refine Q332 ?_
     apply Ym (rg [(2,3),(8,21),(30,95)]) (σ:=Nat × Value) (fun zz=>match zz with|(i,u7)=>[(11,.val (.int .i64 i))]) (fun zz=>match zz with|(i,u7)=>[.loc b6 zCo,.loc b7 [.val (.int .i64 k),.val (.string s),.val (.int .i64 n),.val (.int .i64 rk),.val (.string rs),.val (.int .i64 rn),.seq 4 (Ty.cellss rl),.own u1 4 (Ty.cellss (us.map o)),.own u5 11 (Co.cellss (Co.puts o ks)),.own u6 16 (Ca.cellss (Ca.puts o al)),.own u7 17 (Cb.cellss (Cb.puts o (bs.take i)))],.own 24 4 u1,.own 29 11 u5,.own 69 16 u6,.own 46 17 u7]) (fun zz=>match zz with|(i,u7)=>i≤bs.length) (fun zz=>match zz with|(i,u7)=>bs.length - i) ((0,u4))
     ·repeat' (first|exact Wc|apply Wa rfl|apply Wb rfl)
     ·exact Nat.zero_le _
     ·exact by4
     ·exact (Xs V)
     rintro ⟨i,u7⟩ hI
     try dsimp only [List.cons_append,List.nil_append] at hI ⊢
     refine Q339 ?_
     refine Q91 ?_;intro n96
     refine Q19 ?_;intro c97 h97
     refine Q226 ?_
     rcases Za h97 with ⟨rfl,g97⟩|⟨rfl,g97⟩
     ·refine Q343 ?_
      rw [List.take_of_length_le (by omega)]
      refine Q4 ?_
      refine Q193 ?_
      refine Q134 ?_
      refine Q257 ?_
      exact Zj (i:=0) V V V ta_29 V by2 by3 ⟨V,V⟩
     refine Q265 ?_
     obtain ⟨⟨qb,qvs,⟨qwk,qws,qwn,qwl⟩,⟨qk,qs,qn,⟨qtk,qts,qtn,qtl⟩,qus,qks,qal,qbs⟩⟩,hxq⟩:=Zr (l:=bs) (i:=i) by7
     have hcq:=Cb.cellss_get hxq
     have hmq:=We hxq
     have hN1:=Cb.Ns_mem hmq
     have hS1:=Cb.size_mem hmq
     have hz1:=(Cb.szs_iff _).1 hzb _ hmq
     have hw1:=(Cb.wds_iff _).1 hwb _ hmq
     rw [Cb.N] at hN1
     rw [Cb.size] at hS1
     rw [Cb.Sz] at hz1
     rw [Cb.Wd] at hw1
     have H:=ih (Co.mk qk qs qn ⟨qtk,qts,qtn,qtl⟩ qus qks qal qbs) (by omega) (by omega) hz1 hw1.2
     have H2:=HP ⟨qwk,qws,qwn,qwl⟩ hw1.1
     have htk:=Yl hxq
     have hlt:(Cb.cellss (Cb.puts o (bs.take i))).length≤9000000:=by rw [Cb.cellss_len,Cb.puts_map,List.length_map,List.length_take];omega
     obtain ⟨⟨yk,ys,yn,⟨ytk,yts,ytn,ytl⟩,yus,yks,yal,ybs⟩,hy⟩:∃ r,(Co.mk qk qs qn ⟨qtk,qts,qtn,qtl⟩ qus qks qal qbs).put o=r:=⟨_,rfl⟩
     obtain ⟨⟨ywk,yws,ywn,ywl⟩,hy2⟩:∃ r,o ⟨qwk,qws,qwn,qwl⟩=r:=⟨_,rfl⟩
     rw [hy] at H
     rw [hy2] at H2
     refine Q372 ?_
     refine Zb 103 V V V (Zg V te_27 V (.seq _ _) V V (hcq) ?_)
     refine Q556 ?_;intro b12
     refine Q93 ?_
     refine Q226 ?_
     refine Yp [0,1,2,3,4,5,6,7,8,9,10,11,12,13,14,15,16,17,18,19,20] [18,20] [[],[0],[],[2],[],[4],[],[],[],[8],[6,7,8,9],[],[],[],[13],[6,7,8,9,10,11,12,13,14],[2,3,4,5,6,7,8,9,10,11,12,13,14,15],[2,3,4,5,6,7,8,9,10,11,12,13,14,15,16],[0,1,2,3,4,5,6,7,8,9,10,11,12,13,14,15,16,17],[0,1,2,3,4,5,6,7,8,9,10,11,12,13,14,15,16,17,18],[0,1,2,3,4,5,6,7,8,9,10,11,12,13,14,15,16,17,18,19]] Xl V ?_
     refine Q27 ?_
     refine Q211 ?_
     refine Q325 ?_
     refine Q368 ?_
     refine Q24 ?_
     refine Q27 ?_
     refine Q113 ?_
     refine Zm 115 (none) (i:=10) V V V V V (Zd (xs:=[.tmp 111,.tmp 112,.tmp 114]) V V (H2) by1 ⟨V,V⟩) ?_
     refine Q412 ?_
     refine Q27 ?_
     refine Zm 119 (some 0) (i:=14) V V V V V (Yc (cs':=[_,_,_,_,_,_,_,_,_,_,_]) (i:=0) V ta_29 V V V V ⟨V,V⟩) ?_
     refine Zm 120 (none) (i:=15) V V V V V (Zd (xs:=[.tmp 116,.tmp 117,.tmp 119]) V V (H) by1 ⟨V,V⟩) ?_
     refine Zm 121 (none) (i:=16) V V V V V (Zp (ns:=[0,1,2,3]) (xs:=[.tmp 108,.tmp 110,.tmp 115,.tmp 120]) V tz_46 V tfl_46 V V V V ⟨V,V⟩) ?_
     refine Zm 122 (none) (i:=17) V V V V V (Zh (xs:=[.tmp 121]) el_27 V V V V V V (Xz V) ⟨V,V⟩) ?_
     refine Yf 6 (i:=18) V V V V V (Zw (i:=0) el_27 V V V V (.seq _ _) by6 (fun u123=>⟨_,V,?_⟩))
     refine Q27 ?_
     refine Yf 2 (i:=20) V V V V V (Zu (cs':=[_,_,_,_,_,_,_,_,_,_,_]) (i:=0) V ts_27 V V V V V (Xz V) V ⟨_,V,?_⟩)
     show AGo _ _ _ _ _ _ _
     refine Q268 ?_
     refine ⟨(i+1,u123),by show i+1≤bs.length;omega,by show bs.length - (i+1)<bs.length - i;omega,by4,Xq _ (Xr _ (Xu _) (Xr _ (Xv (Xt _) (Xv (Xt _) (Xv (Xt _) (Xv (Xt _) (Xv (Xt _) (Xv (Xt _) (Xv (Xt _) (Xv (Xt _) (Xv (Xt _) (Xv (Xt _) (Xv (Xy (by rw [htk,Cb.puts_snoc,Cb.put,hy,hy2,Cb.cellss_app];rfl)) (Xu _)))))))))))) (Xs V)))⟩
    refine Q256 ?_
    obtain ⟨⟨⟨qqk,qqs,qqn,qql,qqp⟩,⟨qk,qs,qn,⟨qtk,qts,qtn,qtl⟩,qus,qks,qal,qbs⟩⟩,hxq⟩:=Zr (l:=al) (i:=i) by7
    have hcq:=Ca.cellss_get hxq
    have hmq:=We hxq
    have hN1:=Ca.Ns_mem hmq
    have hS1:=Ca.size_mem hmq
    have hz1:=(Ca.szs_iff _).1 hza _ hmq
    have hw1:=(Ca.wds_iff _).1 hwa _ hmq
    rw [Ca.N] at hN1
    rw [Ca.size] at hS1
    rw [Ca.Sz] at hz1
    rw [Ca.Wd] at hw1
    have H:=ih (Co.mk qk qs qn ⟨qtk,qts,qtn,qtl⟩ qus qks qal qbs) (by omega) (by omega) hz1 hw1
    have htk:=Yl hxq
    have hlt:(Ca.cellss (Ca.puts o (al.take i))).length≤9000000:=by rw [Ca.cellss_len,Ca.puts_map,List.length_map,List.length_take];omega
    obtain ⟨⟨yk,ys,yn,⟨ytk,yts,ytn,ytl⟩,yus,yks,yal,ybs⟩,hy⟩:∃ r,(Co.mk qk qs qn ⟨qtk,qts,qtn,qtl⟩ qus qks qal qbs).put o=r:=⟨_,rfl⟩
    rw [hy] at H
    refine Yp [0,1,2,3,4,5,6,7,8,9,10,11,12,13,14,15,16,17,18,19,20,21] [19,21] [[],[0],[],[2],[],[2,3,4],[2,3,4,5],[2,3,4,5,6],[],[],[],[10],[],[10,11,12],[10,11,12,13],[10,11,12,13,14],[8,9,10,11,12,13,14,15],[2,3,4,5,6,7,8,9,10,11,12,13,14,15,16],[2,3,4,5,6,7,8,9,10,11,12,13,14,15,16,17],[0,1,2,3,4,5,6,7,8,9,10,11,12,13,14,15,16,17,18],[0,1,2,3,4,5,6,7,8,9,10,11,12,13,14,15,16,17,18,19],[0,1,2,3,4,5,6,7,8,9,10,11,12,13,14,15,16,17,18,19,20]] Xl V ?_
    refine Q433 ?_
    refine Q468 ?_
    refine Zm 77 (none) (i:=5) V V V V V (Zg V te_26 V (.seq _ _) V V (hcq) ⟨V,V⟩) ?_
    refine Q56 ?_
    refine Zm 79 (none) (i:=7) V V V V V (Yb (cs':=[_,_,_,_,_]) V ta_67 V V V ⟨V,V⟩) ?_
    refine Q412 ?_
    refine Q468 ?_
    refine Zm 85 (none) (i:=13) V V V V V (Zg V te_26 V (.seq _ _) V V (hcq) ⟨V,V⟩) ?_
    refine Q56 ?_
    refine Q84 ?_
    refine Zm 88 (none) (i:=16) V V V V V (Zd (xs:=[.tmp 80,.tmp 81,.tmp 87]) V V (H) by1 ⟨V,V⟩) ?_
    refine Zm 89 (none) (i:=17) V V V V V (Zp (ns:=[0,1]) (xs:=[.tmp 79,.tmp 88]) V tz_69 V tfl_69 V V V V ⟨V,V⟩) ?_
    refine Zm 90 (none) (i:=18) V V V V V (Zh (xs:=[.tmp 89]) el_26 V V V V V V (Xz V) ⟨V,V⟩) ?_
    refine Yf 4 (i:=19) V V V V V (Zw (i:=0) el_26 V V V V (.seq _ _) by6 (fun u91=>⟨_,V,?_⟩))
    refine Q27 ?_
    refine Yf 1 (i:=21) V V V V V (Zu (cs':=[_,_,_,_,_,_,_,_,_,_,_]) (i:=0) V ts_26 V V V V V (Xz V) V ⟨_,V,?_⟩)
    show AGo _ _ _ _ _ _ _
    refine Q268 ?_
    refine ⟨(i+1,u91),by show i+1≤al.length;omega,by show al.length - (i+1)<al.length - i;omega,by4,(Xr _ (Xu _) (Xr _ (Xv (Xt _) (Xv (Xt _) (Xv (Xt _) (Xv (Xt _) (Xv (Xt _) (Xv (Xt _) (Xv (Xt _) (Xv (Xt _) (Xv (Xt _) (Xv (Xy (by rw [htk,Ca.puts_snoc,Ca.put,hy,Ca.cellss_app];rfl)) (Xv (Xt _) (Xu _)))))))))))) (Xs V)))⟩
   refine Q256 ?_
   obtain ⟨⟨qk,qs,qn,⟨qtk,qts,qtn,qtl⟩,qus,qks,qal,qbs⟩,hxq⟩:=Zr (l:=ks) (i:=i) by7
   have hcq:=Co.cellss_get hxq
   have hmq:=We hxq
   have H:=ih (Co.mk qk qs qn ⟨qtk,qts,qtn,qtl⟩ qus qks qal qbs) (by have:=Co.size_mem hmq;omega) (by have:=Co.Ns_mem hmq;omega) ((Co.szs_iff _).1 hzk _ hmq) ((Co.wds_iff _).1 hwk _ hmq)
   have htk:=Yl hxq
   have hlt:(Co.cellss (Co.puts o (ks.take i))).length≤9000000:=by rw [Co.cellss_len,Co.puts_map,List.length_map,List.length_take];omega
   obtain ⟨⟨yk,ys,yn,⟨ytk,yts,ytn,ytl⟩,yus,yks,yal,ybs⟩,hy⟩:∃ r,(Co.mk qk qs qn ⟨qtk,qts,qtn,qtl⟩ qus qks qal qbs).put o=r:=⟨_,rfl⟩
   rw [hy] at H
   refine Q223 ?_
   refine Q433 ?_
   refine Q412 ?_
   refine Q468 ?_
   refine Zm 59 (none) (i:=7) V V V V V (Zg V te_25 V (.seq _ _) V V (hcq) ⟨V,V⟩) ?_
   refine Q84 ?_
   refine Zm 61 (none) (i:=9) V V V V V (Zd (xs:=[.tmp 54,.tmp 55,.tmp 60]) V V (H) by1 ⟨V,V⟩) ?_
   refine Zm 62 (none) (i:=10) V V V V V (Zh (xs:=[.tmp 61]) el_25 V V V V V V (Xz V) ⟨V,V⟩) ?_
   refine Yf 3 (i:=11) V V V V V (Zw (i:=0) el_25 V V V V (.seq _ _) by6 (fun u63=>⟨_,V,?_⟩))
   refine Q27 ?_
   refine Yf 1 (i:=13) V V V V V (Zu (cs':=[_,_,_,_,_,_,_,_,_,_,_]) (i:=0) V ts_25 V V V V V (Xz V) V ⟨_,V,?_⟩)
   show AGo _ _ _ _ _ _ _
   refine Q268 ?_
   refine ⟨(i+1,u63),by show i+1≤ks.length;omega,by show ks.length - (i+1)<ks.length - i;omega,by4,(Xr _ (Xu _) (Xr _ (Xv (Xt _) (Xv (Xt _) (Xv (Xt _) (Xv (Xt _) (Xv (Xt _) (Xv (Xt _) (Xv (Xt _) (Xv (Xt _) (Xv (Xy (by rw [htk,Co.puts_snoc,hy,Co.cellss_app];rfl)) (Xv (Xt _) (Xv (Xt _) (Xu _)))))))))))) (Xs V)))⟩
  refine Q256 ?_
  obtain ⟨⟨qk,qs,qn,ql⟩,hxq⟩:=Zr (l:=us) (i:=i) by7
  have hcq:=Ty.cellss_get hxq
  have hmq:=We hxq
  have H:=HP ⟨qk,qs,qn,ql⟩ (hwu _ hmq)
  have htk:=Yl hxq
  have hlt:(Ty.cellss ((us.take i).map o)).length≤1000000:=by rw [Ty.cellss_len,List.length_map,List.length_take];omega
  obtain ⟨⟨yk,ys,yn,yl⟩,hy⟩:∃ r,o ⟨qk,qs,qn,ql⟩=r:=⟨_,rfl⟩
  rw [hy] at H
  refine Q223 ?_
  refine Q433 ?_
  refine Q412 ?_
  refine Q468 ?_
  refine Zm 39 (none) (i:=7) V V V V V (Zg V te_22 V (.seq _ _) V V (hcq) ⟨V,V⟩) ?_
  refine Q103 ?_
  refine Zm 41 (none) (i:=9) V V V V V (Zd (xs:=[.tmp 34,.tmp 35,.tmp 40]) V V (H) by1 ⟨V,V⟩) ?_
  refine Zm 42 (none) (i:=10) V V V V V (Zh (xs:=[.tmp 41]) el_22 V V V V V V (Xz V) ⟨V,V⟩) ?_
  refine Yf 2 (i:=11) V V V V V (Zw (i:=0) el_22 V V V V (.seq _ _) (by simp only [List.length_map,List.length_reverse,List.length_cons,List.length_nil];omega) (fun u43=>⟨_,V,?_⟩))
  refine Q27 ?_
  refine Yf 1 (i:=13) V V V V V (Zu (cs':=[_,_,_,_,_,_,_,_,_,_,_]) (i:=0) V ts_22 V V V V V (Xz V) V ⟨_,V,?_⟩)
  show AGo _ _ _ _ _ _ _
  refine Q268 ?_
  refine ⟨(i+1,u43,u2,u3,u4),by show i+1≤us.length;omega,by show us.length - (i+1)<us.length - i;omega,by4,(Xr _ (Xu _) (Xr _ (Xv (Xt _) (Xv (Xt _) (Xv (Xt _) (Xv (Xt _) (Xv (Xt _) (Xv (Xt _) (Xv (Xt _) (Xv (Xy (by rw [htk,List.map_append,List.map_cons,List.map_nil,hy,Ty.cellss_app];rfl)) (Xv (Xt _) (Xv (Xt _) (Xv (Xt _) (Xu _)))))))))))) (Xs V)))⟩
theorem coAll_c (d:Nat):∀ e:Co,e.size≤d→e.size≤1000000→PCall Tryz.prog 12 [.agg e.cells] (.seq 11 (Co.cellss e.all)):=by
 induction d with
 | zero=>intro e hd;cases e;rw [Co.size] at hd;omega
 | succ d ih =>
  rintro ⟨k,s,n,⟨tk,ts,tn,tl⟩,us,ks,al,bs⟩ hd hz
  obtain ⟨Z,hZ⟩:∃ Z,(Co.mk k s n ⟨tk,ts,tn,tl⟩ us ks al bs).all=Z:=⟨_,rfl⟩
  have hzl:Z.length≤1000000:=by rw [← hZ,Co.all_len];exact hz
  rw [hZ]
  rw [Co.all] at hZ
  rw [Co.size] at hd hz
  have hlk:=Co.cellss_len ks
  have hla:=Ca.cellss_len al
  have hlb:=Cb.cellss_len bs
  refine Zc Tryz.func12 V (by kernel_rfl) V (Xz V) ?_
  refine Q517 ?_
  refine Q264 ?_
  refine Q72 ?_
  refine Zb 8 V V V (Yt (xs:=[.tmp 7]) el_25 V V V V V V (Xz V) ?_);intro u8
  refine Q337 ?_
  apply Ym (rg [(0,1),(3,2),(7,17)]) (σ:=Nat × List Co × Value) (fun zz=>match zz with|(i,out,u)=>[(3,.own u 11 (Co.cellss out)),(4,.val (.int .i64 i))]) (fun zz=>match zz with|(i,out,u)=>[.own 29 11 u]) (fun zz=>match zz with|(i,out,u)=>i≤ks.length∧out++(Co.alls (ks.drop i)++(Ca.alls al++Cb.alls bs))=Z) (fun zz=>match zz with|(i,out,u)=>ks.length - i) ((0,[.mk k s n ⟨tk,ts,tn,tl⟩ us ks al bs],u8))
  ·repeat' (first|exact Wc|apply Wa rfl|apply Wb rfl)
  ·exact ⟨Nat.zero_le _,hZ⟩
  ·exact by4
  ·exact by3
  rintro ⟨i,out,u⟩ hI
  try dsimp only [List.cons_append,List.nil_append] at hI ⊢
  obtain ⟨hi,hm⟩:=hI
  have hol:=Co.cellss_len out
  refine Q339 ?_
  refine Q68 ?_;intro n12
  refine Q19 ?_;intro c13 h13
  refine Q226 ?_
  rcases Za h13 with ⟨rfl,g13⟩|⟨rfl,g13⟩
  ·refine Q347 ?_
   rw [Wf (by omega),Co.alls,List.nil_append] at hm
   refine Q332 ?_
   apply Ym (rg [(0,1),(3,3),(7,33)]) (σ:=Nat × List Co × Value) (fun zz=>match zz with|(i,out,u)=>[(3,.own u 11 (Co.cellss out)),(5,.val (.int .i64 i))]) (fun zz=>match zz with|(i,out,u)=>[.own 29 11 u]) (fun zz=>match zz with|(i,out,u)=>i≤al.length∧out++(Ca.alls (al.drop i)++Cb.alls bs)=Z) (fun zz=>match zz with|(i,out,u)=>al.length - i) ((0,out,u))
   ·repeat' (first|exact Wc|apply Wa rfl|apply Wb rfl)
   ·exact ⟨Nat.zero_le _,hm⟩
   ·exact by4
   ·exact by3
   rintro ⟨i,out,u⟩ hI
   try dsimp only [List.cons_append,List.nil_append] at hI ⊢
   obtain ⟨hi,hm⟩:=hI
   have hol:=Co.cellss_len out
   refine Q339 ?_
   refine Q125 ?_;intro n27
   refine Q19 ?_;intro c28 h28
   refine Q226 ?_
   rcases Za h28 with ⟨rfl,g28⟩|⟨rfl,g28⟩
   ·refine Q347 ?_
    rw [Wf (by omega),Ca.alls,List.nil_append] at hm
    refine Q332 ?_
    apply Ym (rg [(0,1),(3,53)]) (σ:=Nat × List Co × Value) (fun zz=>match zz with|(i,out,u)=>[(3,.own u 11 (Co.cellss out)),(6,.val (.int .i64 i))]) (fun zz=>match zz with|(i,out,u)=>[.own 29 11 u]) (fun zz=>match zz with|(i,out,u)=>i≤bs.length∧out++Cb.alls (bs.drop i)=Z) (fun zz=>match zz with|(i,out,u)=>bs.length - i) ((0,out,u))
    ·repeat' (first|exact Wc|apply Wa rfl|apply Wb rfl)
    ·exact ⟨Nat.zero_le _,hm⟩
    ·exact by4
    ·exact by3
    rintro ⟨i,out,u⟩ hI
    try dsimp only [List.cons_append,List.nil_append] at hI ⊢
    obtain ⟨hi,hm⟩:=hI
    have hol:=Co.cellss_len out
    refine Q339 ?_
    refine Q91 ?_;intro n43
    refine Q19 ?_;intro c44 h44
    refine Q226 ?_
    rcases Za h44 with ⟨rfl,g44⟩|⟨rfl,g44⟩
    ·refine Q364 ?_
     rw [Wf (by omega),Cb.alls,List.append_nil] at hm
     subst hm
     exact Zf V V (Le.own _ _ _) (Xo _) ⟨V,V⟩
    refine Q256 ?_
    obtain ⟨⟨qb,qvs,⟨qwk,qws,qwn,qwl⟩,⟨qk,qs,qn,⟨qtk,qts,qtn,qtl⟩,qus,qks,qal,qbs⟩⟩,hxq⟩:=Zr (l:=bs) (i:=i) by7
    have hcq:=Cb.cellss_get hxq
    have hmq:=We hxq
    rw [Yh hxq,Cb.alls,Cb.all] at hm
    have hlen:=congrArg List.length hm
    simp only [List.length_append] at hlen
    have hsz:=Cb.size_mem hmq
    rw [Cb.size] at hsz
    have IH:=ih (Co.mk qk qs qn ⟨qtk,qts,qtn,qtl⟩ qus qks qal qbs) (by omega) (by omega)
    generalize (Co.mk qk qs qn ⟨qtk,qts,qtn,qtl⟩ qus qks qal qbs).all=z at *
    have hzc:=Co.cellss_len z
    refine Q461 ?_
    refine Zb 51 V V V (Zg V te_27 V (.seq _ _) V V (hcq) ?_)
    refine Q13 ?_
    refine Q72 ?_
    refine Zb 54 V V V (Zd (xs:=[.tmp 53]) V V (IH) by1 ?_)
    refine Zb 55 V V V (Zw (i:=0) el_25 V V V V (.seq _ _) by6 ?_)
    intro u55
    refine Q349 ?_
    exact ⟨(i+1,out++z,u55),⟨by show i+1≤bs.length;omega,by rw [← hm];simp only [List.append_assoc]⟩,by show bs.length - (i+1)<bs.length - i;omega,Xw V (Xy (Co.cellss_app _ _).symm) by4,by3⟩
   refine Q256 ?_
   obtain ⟨⟨⟨qqk,qqs,qqn,qql,qqp⟩,⟨qk,qs,qn,⟨qtk,qts,qtn,qtl⟩,qus,qks,qal,qbs⟩⟩,hxq⟩:=Zr (l:=al) (i:=i) by7
   have hcq:=Ca.cellss_get hxq
   have hmq:=We hxq
   rw [Yh hxq,Ca.alls,Ca.all] at hm
   have hlen:=congrArg List.length hm
   simp only [List.length_append] at hlen
   have hsz:=Ca.size_mem hmq
   rw [Ca.size] at hsz
   have IH:=ih (Co.mk qk qs qn ⟨qtk,qts,qtn,qtl⟩ qus qks qal qbs) (by omega) (by omega)
   generalize (Co.mk qk qs qn ⟨qtk,qts,qtn,qtl⟩ qus qks qal qbs).all=z at *
   have hzc:=Co.cellss_len z
   refine Q461 ?_
   refine Zb 35 V V V (Zg V te_26 V (.seq _ _) V V (hcq) ?_)
   refine Q13 ?_
   refine Q72 ?_
   refine Zb 38 V V V (Zd (xs:=[.tmp 37]) V V (IH) by1 ?_)
   refine Zb 39 V V V (Zw (i:=0) el_25 V V V V (.seq _ _) by6 ?_)
   intro u39
   refine Q349 ?_
   exact ⟨(i+1,out++z,u39),⟨by show i+1≤al.length;omega,by rw [← hm];simp only [List.append_assoc]⟩,by show al.length - (i+1)<al.length - i;omega,Xw V (Xy (Co.cellss_app _ _).symm) by4,by3⟩
  refine Q256 ?_
  obtain ⟨⟨qk,qs,qn,⟨qtk,qts,qtn,qtl⟩,qus,qks,qal,qbs⟩,hxq⟩:=Zr (l:=ks) (i:=i) by7
  have hcq:=Co.cellss_get hxq
  have hmq:=We hxq
  rw [Yh hxq,Co.alls] at hm
  have hlen:=congrArg List.length hm
  simp only [List.length_append] at hlen
  have IH:=ih (Co.mk qk qs qn ⟨qtk,qts,qtn,qtl⟩ qus qks qal qbs) (by have:=Co.size_mem hmq;omega) (by have:=Co.size_mem hmq;omega)
  generalize (Co.mk qk qs qn ⟨qtk,qts,qtn,qtl⟩ qus qks qal qbs).all=z at *
  have hzc:=Co.cellss_len z
  refine Q461 ?_
  refine Zb 20 V V V (Zg V te_25 V (.seq _ _) V V (hcq) ?_)
  refine Q72 ?_
  refine Zb 22 V V V (Zd (xs:=[.tmp 21]) V V (IH) by1 ?_)
  refine Zb 23 V V V (Zw (i:=0) el_25 V V V V (.seq _ _) by6 ?_)
  intro u23
  refine Q349 ?_
  exact ⟨(i+1,out++z,u23),⟨by show i+1≤ks.length;omega,by rw [← hm];simp only [List.append_assoc]⟩,by show ks.length - (i+1)<ks.length - i;omega,Xw V (Xy (Co.cellss_app _ _).symm) by4,by3⟩
theorem askSmall21_c (sc:List Cb) (vs:List ByteArray) (t:Ty):BCall Tryz.prog 18 [.agg (.seq 17 (Cb.cellss sc)::.seq 1 (strs vs)::t.cells)] ((∀ b∈sc,b.t.small 60=true∧b.vs.length≤5)∧sc.length≤120∧vs.length≤5∧t.small 40=true):=by
 have HS:=fun t:Ty=>Small_c t 60 (by decide) (by decide)
 have H4:=Small_c t 40 (by decide) (by decide)
 have hls:=Cb.cellss_len sc
 have hlv:=Ye vs
 obtain ⟨tk,tn,tm,tl⟩:=t
 simp only [Ty.cells] at *
 refine Zc Tryz.func18 V (by kernel_rfl) V (Xz V) ?_
 refine Q300 ?_
 refine Q383 ?_
 refine Q91 ?_;intro n7
 refine Q317 ?_
 apply Yd (rg [(0,1),(2,4),(8,15)]) (σ:=Nat) (fun zz=>match zz with|i=>[(8,.val (.int .i64 i))]) (fun zz=>match zz with|i=>i≤sc.length∧∀ b∈sc.take i,b.t.small 60=true∧b.vs.length≤5) (fun zz=>match zz with|i=>sc.length - i) (0)
 ·repeat' (first|exact Wc|apply Wa rfl|apply Wb rfl)
 ·exact ⟨Nat.zero_le _,by simp⟩
 ·exact by4
 rintro i hI
 try dsimp only [List.cons_append,List.nil_append] at hI ⊢
 obtain ⟨hi,hP⟩:=hI
 refine Q318 ?_;intro c9 h9
 refine Q241 ?_
 rcases Za h9 with ⟨rfl,g9⟩|⟨rfl,g9⟩
 ·refine Q343 ?_
  rw [List.take_of_length_le (by omega)] at hP
  refine Zy 2 (sc.length≤120∧vs.length≤5∧Ty.small ⟨tk,tn,tm,tl⟩ 40=true) ?_ _ _ V ?_
  ·skip
   refine Q235 ?_
   refine Q91 ?_;intro n25
   refine Q146 ?_;intro c26 h26
   refine Q5 ?_
   rcases Za h26 with ⟨rfl,g26⟩|⟨rfl,g26⟩
   ·skip
    refine Q442 ?_
    refine Q549 ?_
    refine Xx V ?_ by5 by3
    clear HS H4 hP;first|(simp_all;done)|(simp_all;omega)|grind
   skip
   refine Q291 ?_
   refine Q111 ?_;intro n30
   refine Zq 31 V V V V V (op_leq V V V ?_);intro c31 h31
   refine Q260 ?_
   rcases Za h31 with ⟨rfl,g31⟩|⟨rfl,g31⟩
   ·skip
    refine Q549 ?_
    refine Xx V ?_ by5 by3
    clear HS H4 hP;first|(simp_all;done)|(simp_all;omega)|grind
   skip
   refine Q429 ?_
   refine Zq 36 V V V V V (Ze (xs:=[.tmp 35,.const (.int .i64 40)]) V V (H4) by1 ?_);intro c36 h36
   refine Q273 ?_
   refine Xx V ?_ by5 by3
   clear HS H4 hP;first|(simp_all;done)|(simp_all;omega)|grind
  intro c2 h2
  refine Q303 ?_
  exact Zf V V (Xt _) (Xo _) ⟨⟨_,⟨fun h=>⟨hP,h2.1 h⟩,fun q=>h2.2 q.2⟩,V⟩,V⟩
 refine Q265 ?_
 obtain ⟨⟨zb,zvs,⟨zwk,zws,zwn,zwl⟩,⟨zk,zs,zn,⟨ztk,zts,ztn,ztl⟩,zus,zks,zal,zbs⟩⟩,hxz⟩:=Zr (l:=sc) (i:=i) by7
 have hcz:=Cb.cellss_get hxz
 have hmz:=We hxz
 refine Q4 ?_
 refine Zb 10 V V V (Zg V te_27 V (.seq _ _) V V (hcz) ?_)
 refine Q556 ?_;intro b4
 refine Q93 ?_
 refine Q241 ?_
 have HSz:=HS ⟨zwk,zws,zwn,zwl⟩
 have hlz:=Ye zvs
 have hts:=Yl hxz
 refine Zy 21 (¬ (Ty.small ⟨zwk,zws,zwn,zwl⟩ 60=true∧zvs.length≤5)) ?_ _ _ V ?_
 ·skip
  refine Q506 ?_
  refine Zb 14 V V V (Ze (xs:=[.tmp 13,.const (.int .i64 60)]) V V (HSz) by1 ?_);intro c14 h14
  refine Q26 ?_;intro c15 h15
  try replace h15:=Yo h15 h14
  refine Q5 ?_
  rcases Za h15 with ⟨rfl,g15⟩|⟨rfl,g15⟩
  ·skip
   refine Q336 ?_
   refine Q111 ?_;intro n19
   refine Q71 ?_;intro c20 h20
   refine Q236 ?_
   refine Xx V ?_ by5 by3
   clear HS H4;first|(simp_all;done)|(simp_all;omega)|grind
  skip
  refine Q376 ?_
  refine Xx V ?_ by5 by3
  clear HS H4;first|(simp_all;done)|(simp_all;omega)|grind
 intro c21 h21
 refine Q1 ?_
 rcases Za h21 with ⟨rfl,g21⟩|⟨rfl,g21⟩
 ·refine Q375 ?_
  refine ⟨i+1,⟨by show i+1≤sc.length;omega,fun b hb=>?_⟩,by show sc.length - (i+1)<sc.length - i;omega,by4,by3⟩
  rw [hts] at hb
  rcases List.mem_append.1 hb with q|q
  ·exact hP b q
  rw [List.mem_singleton] at q
  subst q
  exact Classical.not_not.1 g21
 refine Q285 ?_
 exact Zf V V (Xt _) (Xo _) ⟨⟨false,⟨fun h=>by simp at h,fun q=>absurd (q.1 _ hmz) g21⟩,V⟩,V⟩
def inn (e:Co):List ByteArray:=e.bs.flatMap Cb.vs
mutual
theorem Co.inn_len:∀ e:Co,(e.all.flatMap inn).length≤e.N
 | .mk k s n t ts ks al bs=>by
  have h1:=Co.inns_len ks
  have h2:=Ca.inns_len al
  have h3:=Cb.inns_len bs
  rw [Co.all,Co.N]
  simp only [List.flatMap_cons,List.flatMap_append,List.length_append]
  have:inn (.mk k s n t ts ks al bs)=bs.flatMap Cb.vs:=rfl
  rw [this]
  omega
theorem Co.inns_len:∀ l:List Co,((Co.alls l).flatMap inn).length≤Co.Ns l
 | []=>Nat.zero_le _
 | x::l=>by
  have h1:=Co.inn_len x
  have h2:=Co.inns_len l
  rw [Co.alls,Co.Ns,List.flatMap_append,List.length_append]
  omega
theorem Ca.inns_len:∀ l:List Ca,((Ca.alls l).flatMap inn).length≤Ca.Ns l
 | []=>Nat.zero_le _
 | .mk q e::l=>by
  have h1:=Co.inn_len e
  have h2:=Ca.inns_len l
  rw [Ca.alls,Ca.all,Ca.Ns,Ca.N,List.flatMap_append,List.length_append]
  omega
theorem Cb.inns_len:∀ l:List Cb,(l.flatMap Cb.vs).length+((Cb.alls l).flatMap inn).length≤Cb.Ns l
 | []=>Nat.zero_le _
 | .mk s vs t e::l=>by
  have h1:=Co.inn_len e
  have h2:=Cb.inns_len l
  rw [Cb.alls,Cb.all,Cb.Ns,Cb.N,List.flatMap_append,List.length_append,List.flatMap_cons,List.length_append]
  have:Cb.vs (.mk s vs t e)=vs:=rfl
  rw [this]
  omega
end
theorem strs_app' (a b:List ByteArray):strs (a++b)=strs a++strs b:=by simp [strs]
theorem inner_c (e:Co) (hz:e.size≤1000000) (hN:e.N≤9000000):PCall Tryz.prog 23 [.agg e.cells] (.seq 1 (strs (e.all.flatMap inn))):=by
 have HA:=coAll_c e.size e (Nat.le_refl _) hz
 have hZl:=Co.inn_len e
 obtain ⟨Z,hZ⟩:∃ Z,e.all.flatMap inn=Z:=⟨_,rfl⟩
 rw [hZ] at hZl ⊢
 generalize e.all=L at *
 have hll:=Co.cellss_len L
 obtain ⟨k,s,n,⟨tk,ts,tn,tl⟩,us,ks,al,bs⟩:=e
 simp only [Co.cells,Ty.cells,List.cons_append,List.nil_append] at *
 refine Zc Tryz.func23 V (by kernel_rfl) V (Xz V) ?_
 refine Q517 ?_
 refine Q264 ?_
 refine Q238 ?_
 refine Q227 ?_
 refine Q72 ?_
 refine Zb 9 V V V (Zd (xs:=[.tmp 8]) V V (HA) by1 ?_)
 refine Q68 ?_;intro n10
 refine Q317 ?_
 refine ACode.ownNil (t:=3) 9 1 V ?_
 apply Ym (rg [(0,2),(3,6),(11,17)]) (σ:=Nat × List ByteArray × Value) (fun zz=>match zz with|(i,out,u)=>[(3,.own u 1 (strs out)),(11,.val (.int .i64 i))]) (fun zz=>match zz with|(i,out,u)=>[.own 9 1 u]) (fun zz=>match zz with|(i,out,u)=>i≤L.length∧out++(L.drop i).flatMap inn=Z) (fun zz=>match zz with|(i,out,u)=>L.length - i) ((0,[],.slice none 0 0))
 ·repeat' (first|exact Wc|apply Wa rfl|apply Wb rfl)
 ·exact ⟨Nat.zero_le _,by rw [List.drop_zero,List.nil_append];exact hZ⟩
 ·exact by4
 ·exact by3
 rintro ⟨i,out,u⟩ hI
 try dsimp only [List.cons_append,List.nil_append] at hI ⊢
 obtain ⟨hi,hm⟩:=hI
 refine Q318 ?_;intro c12 h12
 refine Q241 ?_
 rcases Za h12 with ⟨rfl,g12⟩|⟨rfl,g12⟩
 ·refine Q364 ?_
  rw [Wf (by omega),List.flatMap_nil,List.append_nil] at hm
  subst hm
  exact Zf V V (Le.own _ _ _) (Xo _) ⟨V,V⟩
 refine Q265 ?_
 obtain ⟨⟨qk,qs,qn,⟨qtk,qts,qtn,qtl⟩,qus,qks,qal,qbs⟩,hxq⟩:=Zr (l:=L) (i:=i) by7
 have hcq:=Co.cellss_get hxq
 have hmq:=We hxq
 refine Q4 ?_
 refine Zb 13 V V V (Zg V te_25 V (.seq _ _) V V (hcq) ?_)
 refine Q72 ?_
 refine Q133 ?_;intro b5
 refine Q134 ?_
 refine Q241 ?_
 rw [Yh hxq,List.flatMap_cons] at hm
 have hlq:=Cb.cellss_len qbs
 replace hm:out++(qbs.flatMap Cb.vs++(L.drop (i+1)).flatMap inn)=Z:=hm
 refine Q465 ?_
 refine Q91 ?_;intro n17
 refine Q317 ?_
 apply Ym (rg [(0,2),(3,2),(6,3),(18,9)]) (σ:=Nat × List ByteArray × Value) (fun zz=>match zz with|(j,ou,u)=>[(3,.own u 1 (strs ou)),(18,.val (.int .i64 j))]) (fun zz=>match zz with|(j,ou,u)=>[.own 9 1 u]) (fun zz=>match zz with|(j,ou,u)=>j≤qbs.length∧ou++((qbs.drop j).flatMap Cb.vs++(L.drop (i+1)).flatMap inn)=Z) (fun zz=>match zz with|(j,ou,u)=>qbs.length - j) ((0,out,u))
 ·repeat' (first|exact Wc|apply Wa rfl|apply Wb rfl)
 ·exact ⟨Nat.zero_le _,by rw [List.drop_zero];exact hm⟩
 ·exact by4
 ·exact by3
 rintro ⟨j,ou,u⟩ hI
 try dsimp only [List.cons_append,List.nil_append] at hI ⊢
 obtain ⟨hj,hn⟩:=hI
 refine Q318 ?_;intro c19 h19
 refine Q241 ?_
 rcases Za h19 with ⟨rfl,g19⟩|⟨rfl,g19⟩
 ·refine Q248 ?_
  refine Q250 ?_
  rw [Wf (by omega),List.flatMap_nil,List.nil_append] at hn
  refine Q320 ?_
  exact ⟨(i+1,ou,u),⟨by show i+1≤L.length;omega,hn⟩,by show L.length - (i+1)<L.length - i;omega,by4,by3⟩
 refine Q265 ?_
 obtain ⟨⟨yb,yvs,⟨ywk,yws,ywn,ywl⟩,⟨yk,ys,yn,⟨ytk,yts,ytn,ytl⟩,yus,yks,yal,ybs⟩⟩,hxy⟩:=Zr (l:=qbs) (i:=j) by7
 have hcy:=Cb.cellss_get hxy
 have hmy:=We hxy
 refine Q4 ?_
 refine Zb 20 V V V (Zg V te_27 V (.seq _ _) V V (hcy) ?_)
 refine Q556 ?_;intro b7
 refine Q93 ?_
 refine Q226 ?_
 rw [Yh hxy,List.flatMap_cons] at hn
 replace hn:ou++((yvs++(qbs.drop (j+1)).flatMap Cb.vs)++(L.drop (i+1)).flatMap inn)=Z:=hn
 have hlen:=congrArg List.length hn
 simp only [List.length_append] at hlen
 have hlv:=Ye yvs
 have hlo:=Ye ou
 refine Q529 ?_
 refine Zb 25 V V V (Zw (i:=1) Xd V V V V (.seq _ _) by6 ?_)
 intro u25
 refine Q450 ?_
 exact ⟨(j+1,ou++yvs,u25),⟨by show j+1≤qbs.length;omega,by rw [← hn];simp only [List.append_assoc]⟩,by show qbs.length - (j+1)<qbs.length - j;omega,Xw V (Xy (strs_app' _ _).symm) by4,by3⟩
end Go.Proofs.YteepjjgooplljaaGreat
namespace Go.Proofs.YteepjjgooplljaaGreat
mutual
theorem patC_vs (v:En):∀ (q:Pa) (u:Ty) (l:List Cb),patC v q u=some l→∀ b∈l,b.vs=[]
 | .mk k s n ks p,u,l,h=>by
  rw [patC] at h
  by_cases k1:k=1
  ·rw [if_pos k1] at h;cases h;simp
  rw [if_neg k1] at h
  by_cases k2:k=2
  ·rw [if_pos k2] at h;cases h;intro b hb;rw [List.mem_singleton] at hb;subst hb;rfl
  rw [if_neg k2] at h
  by_cases k4:k=4
  ·rw [if_pos k4] at h
   by_cases q:u.eqC tInt=true
   ·rw [if_pos q] at h;cases h;simp
   rw [if_neg q] at h;simp at h
  rw [if_neg k4] at h
  cases hc:conC s v.da with
  | none=>rw [hc] at h;simp at h
  | some dc =>
   obtain ⟨d,c⟩:=dc
   rw [hc] at h
   simp only [] at h
   by_cases q:u.kind≠3∨u.name≠d.s∨u.kids.length≠d.ps.length∨ks.length≠c.ts.length
   ·rw [if_pos q] at h;simp at h
   rw [if_neg q] at h
   exact patCs_vs v ks _ l h
theorem patCs_vs (v:En):∀ (qs:List Pa) (ts:List Ty) (l:List Cb),patCs v qs ts=some l→∀ b∈l,b.vs=[]
 | [],ts,l,h=>by rw [patCs] at h;cases h;simp;simp
 | q::qs,[],l,h=>by rw [patCs] at h;cases h;simp;simp
 | q::qs,t::ts,l,h=>by
  rw [patCs] at h
  cases h1:patC v q t with
  | none=>rw [h1] at h;simp at h
  | some a =>
   rw [h1] at h
   simp only [] at h
   cases h2:patCs v qs ts with
   | none=>rw [h2] at h;simp at h
   | some b =>
    rw [h2] at h
    cases h
    intro c hc
    rcases List.mem_append.1 hc with hc|hc
    ·exact patC_vs v q t a h1 c hc
    exact patCs_vs v qs ts b h2 c hc
end
theorem bindC_x {v:En} {F:List Cb→List ByteArray→Co→Ty × Bool} {sc:List Cb} {x:ByteArray} {vs:List ByteArray} {b:Cb} (h:bindC F v sc (x::vs) b=true):x∉b.vs:=by
 intro hx
 simp only [bindC,Bool.and_eq_true] at h
 have:=(List.all_eq_true.1 h.1.2) x hx
 have h9:hasB (x::vs) x=true:=hasB_iff.2 (by simp)
 rw [h9] at this
 simp at this
theorem coP_put (v:En) (hv:EnV v) (pm:List Pm) (hp:∀ p∈pm,p.sc.t.vin p.sc.vs) (x:ByteArray) (A:Ty) (hA:rightC v [] A=true):∀ (n:Nat) (e:Co) (sc sc':List Cb) (vs:List ByteArray),ScR x A sc sc'→(coP v pm n sc (x::vs) e).2=true→coP v pm n sc' vs (e.put (sg x A))=(sg x A (coP v pm n sc (x::vs) e).1,true)
 | 0,e,_,_,_,_,h=>by rw [coP] at h;simp at h
 | n+1,.mk k s m t ts ks al bs,sc,sc',vs,hs,h=>by
  have IH:=fun e=>coP_put v hv pm hp x A hA n e sc sc' vs hs
  have hAv:=rightC_vin v [] A hA
  have hAr:rightC v vs A=true:=rightC_more A hA
  rw [coP_succ] at h
  rw [Co.put,coP_succ,coP_succ]
  by_cases hts:(ts.all (rightC v (x::vs)))=false
  ·rw [if_pos hts] at h;simp at h
  rw [if_neg hts] at h
  have hts2:¬ ((ts.map (sg x A)).all (rightC v vs))=false:=by
   have h1:(ts.all (rightC v (x::vs)))=true:=by simpa using hts
   rw [List.all_eq_true] at h1
   have:((ts.map (sg x A)).all (rightC v vs))=true:=by
    rw [List.all_eq_true]
    intro y hy
    obtain ⟨u,hu,rfl⟩:=List.mem_map.1 hy
    exact rightC_sg hAr u (h1 u hu)
   rw [this];simp
  rw [if_neg hts2,if_neg hts]
  by_cases k1:k=1
  ·rw [if_pos k1] at h
   rw [if_pos k1,if_pos k1]
   exact varC_put hAv hs h
  rw [if_neg k1] at h
  rw [if_neg k1,if_neg k1]
  by_cases k2:k=2
  ·rw [if_pos k2,if_pos k2]
   exact Prod.ext (sg_not (x:=x) (A:=A) (k:=3) (s:=kIntT) (n:=0) (ks:=[]) (by decide)).symm V
  rw [if_neg k2] at h
  rw [if_neg k2,if_neg k2]
  by_cases k3:k=3
  ·rw [if_pos k3,if_pos k3]
   exact Prod.ext (sg_not (x:=x) (A:=A) (k:=3) (s:=kStrT) (n:=0) (ks:=[]) (by decide)).symm V
  rw [if_neg k3] at h
  rw [if_neg k3,if_neg k3]
  by_cases k4:k=4
  ·rw [if_pos k4] at h
   rw [if_pos k4,if_pos k4]
   exact conQ_put hv (fun y _=>IH y) h
  rw [if_neg k4] at h
  rw [if_neg k4,if_neg k4]
  by_cases k5:k=5
  ·rw [if_pos k5] at h
   rw [if_pos k5,if_pos k5]
   match ks,h with
   | [],h=>simp [appK] at h
   | [_],h=>simp [appK] at h
   | [f,y],h =>
    obtain ⟨h1,h2⟩:=appQ_true (f:=coP v pm n sc (x::vs) f) (x:=coP v pm n sc (x::vs) y) h
    show appQ (coP v pm n sc' vs (f.put (sg x A))) (coP v pm n sc' vs (y.put (sg x A)))=(sg x A (appQ (coP v pm n sc (x::vs) f) (coP v pm n sc (x::vs) y)).1,true)
    rw [IH f h1,IH y h2]
    exact appQ_put h
   | _::_::_::_,h=>simp [appK] at h
  rw [if_neg k5] at h
  rw [if_neg k5,if_neg k5]
  by_cases k6:k=6
  ·rw [if_pos k6] at h
   rw [if_pos k6,if_pos k6]
   match ks,h with
   | [],h=>simp [lamK] at h
   | [y],h =>
    rw [lamK] at h
    show lamK _ _ _ [y.put (sg x A)]=_
    rw [lamK,lamK]
    by_cases q:rightC v (x::vs) t=true
    ·rw [if_pos q] at h
     rw [if_pos q,if_pos (rightC_sg hAr t q)]
     have hs2:ScR x A (sc++[Cb.mk s [] t co0]) (sc'++[Cb.mk s [] (sg x A t) co0]):=hs.app (l:=[Cb.mk s [] t co0]) (Cb.sg x A) (fun b hb=>by
      rw [List.mem_singleton] at hb
      subst hb
      exact ⟨V,V,V,by simp [Cb.vs]⟩)
     rw [coP_put v hv pm hp x A hA n y _ _ vs hs2 h]
     exact Prod.ext (sg_not (x:=x) (A:=A) (k:=3) (s:=arrow) (n:=0) (ks:=[t,(coP v pm n (sc++[Cb.mk s [] t co0]) (x::vs) y).1]) (by decide)).symm V
    rw [if_neg q] at h;simp at h
   | _::_::_,h=>simp [lamK] at h
  rw [if_neg k6] at h
  rw [if_neg k6,if_neg k6]
  by_cases k7:k=7
  ·rw [if_pos k7] at h
   rw [if_pos k7,if_pos k7]
   match ks,h with
   | [],h=>simp [letK] at h
   | [y],h =>
    rw [letK] at h
    show letK _ _ _ [y.put (sg x A)]=_
    rw [letK,letK]
    by_cases q:unlB (bs.map Cb.s)=true∧(bs.all fun b=>(decide (m≠1) || decide (b.e.k=6)) && bindC (coP v pm n) v (if m=1 then sc++bs else sc) (x::vs) b)=true
    ·rw [if_pos q] at h
     have hb0:∀ b∈bs,(decide (m≠1) || decide (b.e.k=6))=true∧bindC (coP v pm n) v (if m=1 then sc++bs else sc) (x::vs) b=true:=fun b hb=>by
      have:=List.all_eq_true.1 q.2 b hb
      rwa [Bool.and_eq_true] at this
     have hpe:∀ b:Cb,(b.put (sg x A)).s=b.s∧(b.put (sg x A)).vs=b.vs∧(b.put (sg x A)).t=sg x A b.t∧(b.put (sg x A)).e.k=b.e.k:=fun b=>by
      obtain ⟨_,_,_,⟨_,_,_,_,_,_,_,_⟩⟩:=b
      exact ⟨V,V,V,V⟩
     have hs2:ScR x A (sc++bs) (sc'++bs.map (Cb.put (sg x A))):=hs.app (l:=bs) (Cb.put (sg x A)) (fun b hb=>⟨(hpe b).1,(hpe b).2.1,(hpe b).2.2.1,bindC_x (hb0 b hb).2⟩)
     rw [Cb.puts_map]
     have e1:(bs.map (Cb.put (sg x A))).map Cb.s=bs.map Cb.s:=by
      rw [List.map_map]
      exact List.map_congr_left fun b _=>(hpe b).1
     have e2:((bs.map (Cb.put (sg x A))).all fun b=>(decide (m≠1) || decide (b.e.k=6)) && bindC (coP v pm n) v (if m=1 then sc'++bs.map (Cb.put (sg x A)) else sc') vs b)=true:=by
      rw [List.all_eq_true]
      intro b' hb'
      obtain ⟨b,hb,rfl⟩:=List.mem_map.1 hb'
      rw [Bool.and_eq_true,(hpe b).2.2.2]
      refine ⟨(hb0 b hb).1,(bindC_put hA (fun hb2=>?_) (hb0 b hb).2).1⟩
      refine coP_put v hv pm hp x A hA n b.e _ _ (vs++b.vs) ?_ hb2
      by_cases hm:m=1
      ·rw [if_pos hm,if_pos hm];exact hs2
      rw [if_neg hm,if_neg hm];exact hs
     rw [if_pos q,if_pos ⟨by rw [e1];exact q.1,e2⟩]
     exact coP_put v hv pm hp x A hA n y _ _ vs hs2 h
    rw [if_neg q] at h;simp at h
   | _::_::_,h=>simp [letK] at h
  rw [if_neg k7] at h
  rw [if_neg k7,if_neg k7]
  by_cases k8:k=8
  ·rw [if_pos k8] at h
   rw [if_pos k8,if_pos k8]
   match ks,h with
   | [],h=>simp [casesK] at h
   | [y],h =>
    rw [casesK] at h
    show casesK _ _ _ _ [y.put (sg x A)]=_
    rw [casesK,casesK]
    by_cases q:rightC v (x::vs) t=true
    ·rw [if_pos q] at h
     rw [if_pos q,if_pos (rightC_sg hAr t q)]
     simp only [Bool.and_eq_true] at h
     rw [IH y h.1]
     have q2:((Ca.puts (sg x A) al).all fun a=>altQ v (coP v pm n) sc' vs (sg x A t) (sg x A (coP v pm n sc (x::vs) y).1) a)=true:=by
      rw [Ca.puts_map,List.all_eq_true]
      intro a' ha'
      obtain ⟨a,ha,rfl⟩:=List.mem_map.1 ha'
      refine altQ_put hv (fun l hl hb2=>?_) (List.all_eq_true.1 h.2 a ha)
      refine coP_put v hv pm hp x A hA n a.e _ _ vs (hs.app (Cb.sg x A) (fun b hb=>?_)) hb2
      have hbv:=patC_vs v a.q _ l hl b hb
      cases b
      refine ⟨V,V,V,?_⟩
      rw [hbv]
      simp
     simp only []
     rw [q2]
     rfl
    rw [if_neg q] at h;simp at h
   | _::_::_,h=>simp [casesK] at h
  rw [if_neg k8] at h
  rw [if_neg k8,if_neg k8]
  by_cases k9:k=9
  ·rw [if_pos k9] at h
   rw [if_pos k9,if_pos k9]
   exact primQ_put hp (fun y _=>IH y) h
  rw [if_neg k9] at h
  rw [if_neg k9,if_neg k9]
  by_cases k10:k=10
  ·rw [if_pos k10] at h
   rw [if_pos k10,if_pos k10]
   exact dictQ_put hv hAr (fun y _=>IH y) h
  rw [if_neg k10] at h
  rw [if_neg k10,if_neg k10]
  by_cases k11:k=11
  ·rw [if_pos k11] at h
   rw [if_pos k11,if_pos k11]
   match ks,h with
   | [],h=>simp [selK] at h
   | [y],h =>
    have h1:=selQ_true (v:=v) (s:=s) (m:=m) (r:=coP v pm n sc (x::vs) y) h
    show selQ v s m (coP v pm n sc' vs (y.put (sg x A)))=(sg x A (selQ v s m (coP v pm n sc (x::vs) y)).1,true)
    rw [IH y h1]
    exact selQ_put hv h
   | _::_::_,h=>simp [selK] at h
  rw [if_neg k11] at h
  simp at h
theorem prims_vin:∀ p∈prims,p.sc.t.vin p.sc.vs:=by
 have key:∀ (l:List (ByteArray × Ty)) (j:Nat),∀ p∈prm j l,p.sc.t.vin p.sc.vs:=by
  intro l
  induction l with
  | nil=>intro j p hp;simp [prm] at hp
  | cons x l ih =>
   intro j p hp
   rw [prm] at hp
   rcases List.mem_cons.1 hp with rfl|hp
   ·exact Ty.vin_vars x.2
   exact ih (j+1) p hp
 exact key primRows 0
open Go.RowKit
mutual
theorem Ty.bulk4:∀ t:Ty,4 * t.size≤bulks t.cells
 | .mk k s n ks=>by
  have h:=Ty.bulks4 ks
  simp only [Ty.size,Ty.cells,bulks,AV.bulk]
  omega
theorem Ty.bulks4:∀ l:List Ty,4 * Ty.sizes l≤bulkss (Ty.cellss l)
 | []=>Nat.zero_le _
 | t::l=>by
  have h1:=Ty.bulk4 t
  have h2:=Ty.bulks4 l
  simp only [Ty.sizes,Ty.cellss,bulkss]
  omega
end
structure CbG (b:Cb):Prop where
 ok:b.e.Ok
 vl:b.vs.length≤1048576
 ty:TK 1000000 b.t
 ez:bulks b.e.cells≤1048576
theorem CbG.of {b:Cb} (h:b.e.Ok) (hz:bulks b.cells≤1048576):CbG b:=by
 cases b with|mk s vs t e =>
 simp only [Cb.cells,bulks,bulks_app,AV.bulk] at hz
 have h1:=strs_bulk vs
 have h2:=Ty.bulk4 t
 exact ⟨h,by show vs.length≤1048576;omega,TK.size (by show t.size≤1000000;omega) (by decide),by show bulks e.cells≤1048576;omega⟩
theorem op_fields {P:Program} {al:Sl} {M:Mem} {K:AV→Mem→Prop} {o:Oper} {x:Operand} {t ft:TypeId} {f fo sz:Nat} {cs cs':List AV} (ho:o.op=.field t x f) (ht:tyField P t f=some (ft,fo)) (ha:tyAgg P ft=some (some sz)) (hx:al.ev x=some (.agg cs)) (hc:(cs.drop fo).take sz=cs') (q:K (.agg cs') M):OpT P o al M K :=
 OpT.plain fun n B F Mf ac w hi hs=>by
  have h:=hs.ev hx
  generalize hu:ac.eval x=u at h
  cases h with
  | agg h h1 =>
   rename_i vs
   subst hc
   refine ⟨.agg ((vs.drop fo).take sz).toArray,_,?_,q,.agg ((h.drop fo).take sz) (fun v hv=>h1 v (List.mem_of_mem_drop (List.mem_of_mem_take hv)))⟩
   unfold tyField at ht
   split at ht <;> first|(simp at ht;done)|skip
   rename_i fs hfs
   split at ht <;> first|(simp at ht;done)|skip
   rename_i g hg
   simp only [Option.some.injEq,Prod.mk.injEq] at ht
   obtain ⟨rfl,rfl⟩:=ht
   obtain ⟨a1,a2⟩:=tyAgg_some ha w
   simp [execOp,ho,hu,Instr.field,underlying,hfs,hg,part,asAgg,a1,a2]
mutual
theorem Co.put_N (o:Ty→Ty):∀ e:Co,(e.put o).N=e.N
 | .mk k s n t ts ks al bs=>by rw [Co.put,Co.N,Co.N,Co.puts_N o ks,Ca.puts_N o al,Cb.puts_N o bs]
theorem Co.puts_N (o:Ty→Ty):∀ l:List Co,Co.Ns (Co.puts o l)=Co.Ns l
 | []=>rfl
 | x::l=>by rw [Co.puts,Co.Ns,Co.Ns,Co.put_N o x,Co.puts_N o l]
theorem Ca.puts_N (o:Ty→Ty):∀ l:List Ca,Ca.Ns (Ca.puts o l)=Ca.Ns l
 | []=>rfl
 | .mk q e::l=>by rw [Ca.puts,Ca.Ns,Ca.Ns,Ca.put,Ca.N,Ca.N,Co.put_N o e,Ca.puts_N o l]
theorem Cb.puts_N (o:Ty→Ty):∀ l:List Cb,Cb.Ns (Cb.puts o l)=Cb.Ns l
 | []=>rfl
 | .mk s vs t e::l=>by rw [Cb.puts,Cb.Ns,Cb.Ns,Cb.put,Cb.N,Cb.N,Co.put_N o e,Cb.puts_N o l]
end
mutual
theorem Co.put_size (o:Ty→Ty):∀ e:Co,(e.put o).size=e.size
 | .mk k s n t ts ks al bs=>by rw [Co.put,Co.size,Co.size,Co.puts_size o ks,Ca.puts_size o al,Cb.puts_size o bs]
theorem Co.puts_size (o:Ty→Ty):∀ l:List Co,Co.sizes (Co.puts o l)=Co.sizes l
 | []=>rfl
 | x::l=>by rw [Co.puts,Co.sizes,Co.sizes,Co.put_size o x,Co.puts_size o l]
theorem Ca.puts_size (o:Ty→Ty):∀ l:List Ca,Ca.sizes (Ca.puts o l)=Ca.sizes l
 | []=>rfl
 | .mk q e::l=>by rw [Ca.puts,Ca.sizes,Ca.sizes,Ca.put,Ca.size,Ca.size,Co.put_size o e,Ca.puts_size o l]
theorem Cb.puts_size (o:Ty→Ty):∀ l:List Cb,Cb.sizes (Cb.puts o l)=Cb.sizes l
 | []=>rfl
 | .mk s vs t e::l=>by rw [Cb.puts,Cb.sizes,Cb.sizes,Cb.put,Cb.size,Cb.size,Co.put_size o e,Cb.puts_size o l]
end
mutual
theorem Co.put_sz (o:Ty→Ty):∀ e:Co,e.Sz→(e.put o).Sz
 | .mk k s n t ts ks al bs,h=>by
  rw [Co.Sz] at h
  rw [Co.put,Co.Sz,List.length_map]
  exact ⟨h.1,h.2.1,Co.puts_sz o ks h.2.2.1,Ca.puts_sz o al h.2.2.2.1,Cb.puts_sz o bs h.2.2.2.2⟩
theorem Co.puts_sz (o:Ty→Ty):∀ l:List Co,Co.Szs l→Co.Szs (Co.puts o l)
 | [],_=>trivial
 | x::l,h=>⟨Co.put_sz o x h.1,Co.puts_sz o l h.2⟩
theorem Ca.puts_sz (o:Ty→Ty):∀ l:List Ca,Ca.Szs l→Ca.Szs (Ca.puts o l)
 | [],_=>trivial
 | .mk _ e::l,h=>⟨Co.put_sz o e h.1,Ca.puts_sz o l h.2⟩
theorem Cb.puts_sz (o:Ty→Ty):∀ l:List Cb,Cb.Szs l→Cb.Szs (Cb.puts o l)
 | [],_=>trivial
 | .mk _ _ _ e::l,h=>⟨Co.put_sz o e h.1,Cb.puts_sz o l h.2⟩
end
mutual
theorem Co.put_okk {o:Ty→Ty} (ho:∀ t:Ty,t.small 60=true→TK 3000 (o t)):∀ e:Co,e.Ok→(e.put o).Okk
 | .mk k s n t ts ks al bs,h=>by
  rw [Co.Ok] at h
  rw [Co.put,Co.Okk]
  obtain ⟨h1,h2,h3,h4,h5⟩:=h
  refine ⟨ho t h1,fun u hu=>?_,Co.puts_okk ho ks h3,Ca.puts_okk ho al h4,Cb.puts_okk ho bs h5⟩
  obtain ⟨y,hy,rfl⟩:=List.mem_map.1 hu
  exact ho y ((List.all_eq_true.1 h2) y hy)
theorem Co.puts_okk {o:Ty→Ty} (ho:∀ t:Ty,t.small 60=true→TK 3000 (o t)):∀ l:List Co,Co.Oks l→Co.Okks (Co.puts o l)
 | [],_=>trivial
 | x::l,h=>⟨Co.put_okk ho x h.1,Co.puts_okk ho l h.2⟩
theorem Ca.puts_okk {o:Ty→Ty} (ho:∀ t:Ty,t.small 60=true→TK 3000 (o t)):∀ l:List Ca,Ca.Oks l→Ca.Okks (Ca.puts o l)
 | [],_=>trivial
 | .mk _ e::l,h=>⟨Co.put_okk ho e h.1,Ca.puts_okk ho l h.2⟩
theorem Cb.puts_okk {o:Ty→Ty} (ho:∀ t:Ty,t.small 60=true→TK 3000 (o t)):∀ l:List Cb,Cb.Oks l→Cb.Okks (Cb.puts o l)
 | [],_=>trivial
 | .mk _ _ t e::l,h=>⟨⟨ho t h.1.1,Co.put_okk ho e h.1.2⟩,Cb.puts_okk ho l h.2⟩
end
def Cb.plS (x:ByteArray) (A:Ty) (b:Cb):Cb:=.mk b.s b.vs (Go.Proofs.YteepjjgooplljaaGreat.sg x A b.t) co0
theorem put_facts (v:En) (hv:EnT v) (hw:EnV v) (e:Co) (sc:List Cb) (x:ByteArray) (A:Ty) (hA:rightC v [] A=true) (hs:e.Ok) (hz:bulks e.cells≤1048576) (hsc:∀ b∈sc,b.t.small 60=true∧b.vs.length≤5) (hl:sc.length≤120) (hA4:A.small 40=true) :
    ∃ (W:Ty) (c:Bool),PCall Tryz.prog 20 [.agg v.cells,.seq 17 (Cb.cellss sc),.seq 1 (strs [x]),.agg e.cells] (.tup [.agg W.cells,.val (.bool c)])∧(c=true→PCall Tryz.prog 20 [.agg v.cells,.seq 17 (Cb.cellss (Cb.mk e.s [] A co0::sc)),.seq 1 (strs [x]),.agg e.cells] (.tup [.agg W.cells,.val (.bool true)])∧W.wd∧((∀ b∈sc,x∉b.vs)→PCall Tryz.prog 20 [.agg v.cells,.seq 17 (Cb.cellss (sc.map (Cb.plS x A))),.seq 1 (strs []),.agg (e.put (sg x A)).cells] (.tup [.agg (sg x A W).cells,.val (.bool true)]))):=by
 have hN:=Co.n_bulk e
 have hSz:=Co.sz_bulk e hz
 have hA40:TK 60 A:=TK.size (by have:=(Ty.small_size (by decide) hA4).1;omega) (by decide)
 have hsg:∀ t:Ty,t.small 60=true→TK 120 (sg x A t):=fun t ht=>(TK.small ht).turn (fun u hu=>by rw [List.mem_singleton] at hu;subst hu;exact hA40)
 have SK1:SK 121 sc [x]:=⟨by omega,by simp,fun b hb=>(TK.small (hsc b hb).1).up (by decide)⟩
 have SK2:SK 121 (Cb.mk e.s [] A co0::sc) [x]:=⟨by simp;omega,by simp,fun b hb=>by
  rcases List.mem_cons.1 hb with rfl|hb
  ·exact hA40.up (by decide)
  exact (TK.small (hsc b hb).1).up (by decide)⟩
 have SK3:SK 121 (sc.map (Cb.plS x A)) []:=⟨by rw [List.length_map];omega,by simp,fun b hb=>by
  obtain ⟨y,hy,rfl⟩:=List.mem_map.1 hb
  exact (hsg _ (hsc y hy).1).up (by decide)⟩
 have T1:=typ_all v hv prims prims_size e.size e 121 sc [x] (Nat.le_refl _) hs.okk hSz SK1 (by omega)
 have T2:=typ_all v hv prims prims_size e.size e 121 (Cb.mk e.s [] A co0::sc) [x] (Nat.le_refl _) hs.okk hSz SK2 (by omega)
 have T3:=typ_all v hv prims prims_size e.size (e.put (sg x A)) 121 (sc.map (Cb.plS x A)) [] (by rw [Co.put_size];exact Nat.le_refl _) (Co.put_okk (fun t ht=>(hsg t ht).up (by decide)) e hs) (Co.put_sz _ e hSz) SK3 (by rw [Co.put_N];omega)
 refine ⟨_,_,coType_c v sc [x] e _ T1.1,fun hc=>?_⟩
 rw [if_pos hc]
 refine ⟨?_,T1.2.1,fun hx=>?_⟩
 ·have:=coType_c v _ [x] e _ T2.1
  rw [coP_wid v prims e.size e sc (Cb.mk e.s [] A co0::sc) [x] (wid_cons _ _) hc,if_pos hc,hc] at this
  exact this
 have hR:ScR x A sc (sc.map (Cb.plS x A)):=by
  have h0:ScR x A [] []:=fun s b hb=>by simp [findL] at hb
  have:=h0.app (l:=sc) (Cb.plS x A) (fun b hb=>⟨rfl,rfl,rfl,hx b hb⟩)
  rwa [List.nil_append,List.nil_append] at this
 have:=coType_c v _ [] _ _ T3.1
 rw [coP_put v hw prims prims_vin x A hA e.size e sc (sc.map (Cb.plS x A)) [] hR hc,if_pos rfl] at this
 exact this
end Go.Proofs.YteepjjgooplljaaGreat
namespace Go.Proofs.YteepjjgooplljaaGreat
theorem consR_all {v:En} {ps:List ByteArray}:∀ {l:List Cn} {met:List ByteArray},(consR v ps l met).1.1=0→∀ c∈l,rightsR v ps c.ts=0
 | [],_,_,c,hc=>by simp at hc
 | x::l,met,h,c,hc=>by
  rw [consR] at h
  split at h
  ·simp at h
  split at h
  ·simp at h
  split at h
  ·rename_i q;exact absurd h q
  rename_i q
  rcases List.mem_cons.1 hc with rfl|hc
  ·exact Classical.not_not.1 q
  exact consR_all h c hc
theorem datas2_all {v:En}:∀ {l:List Da} {met:List ByteArray},(datas2 v l met).1=0→∀ d∈l,∀ c∈d.cs,rightsR v d.ps c.ts=0
 | [],_,_,d,hd=>by simp at hd
 | x::l,met,h,d,hd=>by
  rw [datas2] at h
  split at h
  ·simp at h
  split at h
  ·rename_i q;exact absurd h q
  rename_i q
  rcases List.mem_cons.1 hd with rfl|hd
  ·exact consR_all (Classical.not_not.1 q)
  exact datas2_all h d hd
theorem methR_all {v:En} {x:ByteArray}:∀ {l:List Me} {known:List ByteArray},(methR v x l known).1.1=0→∀ m∈l,rightR v [x] m.t=0
 | [],_,_,m,hm=>by simp at hm
 | y::l,known,h,m,hm=>by
  rw [methR] at h
  split at h
  ·simp at h
  split at h
  ·rename_i q;exact absurd h q
  rename_i q
  rcases List.mem_cons.1 hm with rfl|hm
  ·have h0:=Classical.not_not.1 q
   unfold methE at h0
   split at h0
   ·simp at h0
   exact h0
  exact methR_all h m hm
theorem classes4_all {v:En}:∀ {l:List Cl} {known:List ByteArray},(classes4 v l known).1=0→∀ c∈l,∀ m∈c.ms,rightR v [c.v] m.t=0
 | [],_,_,c,hc=>by simp at hc
 | y::l,known,h,c,hc=>by
  rw [classes4] at h
  split at h
  ·rename_i q;exact absurd h q
  split at h
  ·rename_i q;exact absurd h q
  rename_i q _
  rcases List.mem_cons.1 hc with rfl|hc
  ·exact methR_all (Classical.not_not.1 q)
  exact classes4_all h c hc
theorem check_v {p:Pg} (h:(checkR p).1=0):EnV (envOf p):=by
 unfold checkR at h
 dsimp only at h
 split at h
 ·rename_i q;exact absurd h q
 split at h
 ·rename_i q;exact absurd h q
 rename_i h1 h2
 replace h1:=Classical.not_not.1 h1
 replace h2:=Classical.not_not.1 h2
 unfold datasR at h1
 split at h1
 ·rename_i q;exact absurd h1 q
 unfold classesR at h2
 split at h2
 ·rename_i q;exact absurd h2 q
 split at h2
 ·rename_i q;exact absurd h2 q
 split at h2
 ·rename_i q;exact absurd h2 q
 exact ⟨fun d hd c hc=>(Ty.vins_iff _ _).1 (rightsR_vin _ _ _ (datas2_all h1 d hd c hc)),fun c hc m hm=>rightR_vin _ _ _ (classes4_all h2 c hc m hm)⟩
theorem env_v {s:ByteArray} (h:(envR s).2=true):EnV (envR s).1:=by
 unfold envR at h ⊢
 split at h
 ·simp at h
 rename_i h1
 split at h
 ·simp at h
 rename_i h2
 rw [if_neg h1,if_neg h2]
 exact check_v (Classical.not_not.1 fun q=>h2 (.inr q))
open Go.RowKit
theorem awake21_c:BCall Tryz.prog 7 [] True:=by
 have HT:=coType_c (.mk [] [] []) [] [] ex21 _ ex21_typ
 rw [if_pos rfl] at HT
 have hc1:(Ty.cellss [tInt,tInt])[1]?=some [.val (.int .i64 3),.val (.string kIntT),.val (.int .i64 0),.seq 4 []]:=rfl
 refine Zc Tryz.func7 V (by kernel_rfl) V (Xz V) ?_
 refine Q537 ?_
 refine Zb 4 V V V (Zp (ns:=[0,1]) (xs:=[.const (.int .i64 3),.const (.string ⟨#[73,110,116]⟩)]) V tz_24 V tfl_24 V V V V ?_)
 refine Q21 ?_;intro b1
 refine Q30 ?_
 refine Q258 ?_
 refine Q174 ?_
 refine Q49 ?_
 refine Zb 8 V V V (Zp (ns:=[0,1]) (xs:=[.const (.int .i64 1),.const (.string ⟨#[120]⟩)]) V tz_29 V tfl_29 V V V V ?_)
 refine Zb 9 V V V (Zh (xs:=[.tmp 8]) el_25 V V V V V V (Xz V) (Zb 10 V V V (Zp (ns:=[0,1,3,5]) (xs:=[.const (.int .i64 6),.const (.string ⟨#[120]⟩),.tmp 7,.tmp 9]) V tz_29 V tfl_29 V V V V ?_)))
 refine Zb 11 V V V (Zd (xs:=[.tmp 6,.const (.slice none 0 0),.const (.slice none 0 0),.tmp 10])  V V HT by0 ?_)
 refine Q478 ?_;intro b2
 refine Q30 ?_
 refine Q238 ?_
 refine Zy 0 (True) ?_ _ _ V ?_
 ·skip
  refine Q277 ?_
  refine Q490 ?_;intro c18 h18
  refine Q260 ?_
  rcases Za h18 with ⟨rfl,g18⟩|⟨rfl,g18⟩
  ·exact absurd V g18
  skip
  refine Q336 ?_
  refine Q79 ?_;intro n23
  refine Q38 ?_;intro c24 h24
  refine Q260 ?_
  rcases Za h24 with ⟨rfl,g24⟩|⟨rfl,g24⟩
  ·exact absurd V g24
  skip
  refine Q336 ?_
  refine Zq 29 V V V V V (Zg V te_22 V (.seq _ _) V V (hc1) ?_)
  refine Q291 ?_
  refine Q78 ?_;intro c32 h32
  refine Q273 ?_
  refine Xx V ?_ by5 by3
  first|(simp_all;done)|exact iff_t trivial|exact ⟨fun _=>trivial,fun _=>h32.2 rfl⟩
 intro c0 h0
 refine Q303 ?_
 exact Zf V V (Xt _) (Xo _) ⟨⟨_,h0,V⟩,V⟩
end Go.Proofs.YteepjjgooplljaaGreat
namespace Go.Proofs.YteepjjgooplljaaGreat
open Go.ChangeShapes Go.WideShapes Go.ChangeAt Go.RowKit
theorem CorePut_c (s:ByteArray) (e:Co) (sc:List Cb) (vs:List ByteArray) (A:Ty) (hle:e.Lim) (hz:bulks e.cells≤1048576):ACall Tryz.prog 6 [.val (.string s),.agg e.cells,.agg (.seq 17 (Cb.cellss sc)::.seq 1 (strs vs)::A.cells)] [] (fun v _=>v=.val (.bool true)):=by
 have HE:=Env_c s
 have hok:=env_ok (s:=s)
 have hev:=env_v (s:=s)
 obtain ⟨⟨v,c8⟩,he⟩:∃ e,envR s=e:=⟨_,rfl⟩
 rw [he] at HE hok hev
 simp only [] at HE hok hev
 clear he
 have HS:=coSmall_c e hle 300 (by decide) (by decide)
 have hbe:=fun q=>Co.small_size (e:=e) (most:=300) hle (by decide) (by decide) q
 generalize e.small 300=sm at HS hbe
 have HA:=askSmall21_c sc vs A
 obtain ⟨ask,hask⟩:∃ p:Prop,p=((∀ b∈sc,b.t.small 60=true∧b.vs.length≤5)∧sc.length≤120∧vs.length≤5∧A.small 40=true):=⟨_,rfl⟩
 rw [← hask] at HA
 have HR:=fun h:c8=true=>rRight_c v (hok h).2 [] A
 obtain ⟨rA,hrA⟩:∃ c,rightC v [] A=c:=⟨_,rfl⟩
 rw [hrA] at HR
 have HF:=fun (x:ByteArray) (h1:c8=true) (h2:sm) (h3:ask) (h4:rA=true)=>put_facts v (hok h1).1 (hev h1) e sc x A (by rw [hrA];exact h4) (hbe h2).2 hz (by rw [hask] at h3;exact h3.1) (by rw [hask] at h3;exact h3.2.1) (by rw [hask] at h3;exact h3.2.2.2)
 have hNe:=Co.n_bulk e
 have hSz:=Co.sz_bulk e hz
 have HI:=fun h:sm=>inner_c e (by have:=(hbe h).1;omega) (by omega)
 have HP:=fun (x:ByteArray) (h:sm)=>rPutC_c [x] (by simp) [A] e.size e (Nat.le_refl _) (by omega) hSz (hbe h).2.okk.wd
 have HQ:=fun (x:ByteArray) (t:Ty) (ht:t.wd)=>rPutC_c [x] (by simp) [A] 1 (Co.mk 0 kE 0 t [] [] [] []) (by simp [Co.size,Co.sizes,Ca.sizes,Cb.sizes]) (by simp [Co.N,Co.Ns,Ca.Ns,Cb.Ns]) (by rw [Co.Sz];exact ⟨Nat.zero_le _,Nat.zero_le _,trivial,trivial,trivial⟩) (by rw [Co.Wd];exact ⟨ht,by simp,trivial,trivial,trivial⟩)
 have hls:=Cb.cellss_len sc
 have hlv:=Ye vs
 clear hok hev hbe hz hle hSz hNe
 obtain ⟨da,cl,ins⟩:=v
 obtain ⟨ek,es,en,⟨etk,ets,etn,etl⟩,eus,eks,eal,ebs⟩:=e
 obtain ⟨Ak,As,An,Al⟩:=A
 simp only [Cb.cellss,Cb.cells,Ty.cells,Co.cells,Co.s,En.cells,List.cons_append,List.nil_append] at *
 refine Zc Tryz.func6 V (by kernel_rfl) V (Xz V) ?_
 refine Q517 ?_
 refine Q40 ?_
 refine Q238 ?_
 refine Q227 ?_
 refine Zb 23 V V V (Zd (xs:=[]) V V (awake21_c.yes trivial) by1 ?_)
 refine Q26 ?_;intro c24 h24
 try replace h24:=Yo h24 h23
 refine Q226 ?_
 rcases Za h24 with ⟨rfl,g24⟩|⟨rfl,g24⟩
 ·refine Q321 ?_
  refine Zb 27 V V V (Zd (xs:=[.tmp 26]) V V (HE) by1 ?_)
  refine Q308 ?_
  refine Q155 ?_;intro b7
  refine Q156 ?_
  refine Q306 ?_
  refine Zy 54 (c8=false∨¬ sm∨¬ ask∨vs.length=0∨rA=false) ?_ _ _ V ?_
  ·skip
   refine Q419 ?_;intro c31 h31
   try replace h31:=Yo h31 h29
   refine Q5 ?_
   rcases Za h31 with ⟨rfl,g31⟩|⟨rfl,g31⟩
   ·skip
    refine Q200 ?_
    refine Zq 34 V V V V V (Ze (xs:=[.tmp 33,.const (.int .i64 300)]) V V (HS) by1 ?_);intro c34 h34
    refine Q67 ?_;intro c35 h35
    try replace h35:=Yo h35 h34
    refine Q260 ?_
    rcases Za h35 with ⟨rfl,g35⟩|⟨rfl,g35⟩
    ·skip
     refine Zq 38 V V V V V (Yb (cs':=[_,_,_,_,_,_]) V ta_55 V V V (Zq 39 V V V V V (Ze (xs:=[.tmp 38]) V V (HA) by1 ?_)));intro c39 h39
     refine Q67 ?_;intro c40 h40
     try replace h40:=Yo h40 h39
     refine Q260 ?_
     rcases Za h40 with ⟨rfl,g40⟩|⟨rfl,g40⟩
     ·skip
      refine Q291 ?_
      refine Q111 ?_;intro n45
      refine Q38 ?_;intro c46 h46
      refine Q260 ?_
      rcases Za h46 with ⟨rfl,g46⟩|⟨rfl,g46⟩
      ·skip
       refine Zq 49 V V V V V (Yc (cs':=[_,_,_]) (i:=0) V ta_41 V V V V ?_)
       refine Q429 ?_
       refine Zq 52 V V V V V (Ze (xs:=[.tmp 49,.const (.slice none 0 0),.tmp 51]) V V ((HR (by first|rfl|assumption|(simp_all;done)))) by1 ?_);intro c52 h52
       refine Q67 ?_;intro c53 h53
       try replace h53:=Yo h53 h52
       refine Q236 ?_
       refine Xx V ?_ by5 by3
       clear HE HS HA HR HF HI HP HQ hask;first|(simp_all;done)|(simp_all;omega)|grind
      skip
      refine Q331 ?_
      refine Xx V ?_ by5 by3
      clear HE HS HA HR HF HI HP HQ hask;first|(simp_all;done)|(simp_all;omega)|grind
     skip
     refine Q442 ?_
     refine Q331 ?_
     refine Xx V ?_ by5 by3
     clear HE HS HA HR HF HI HP HQ hask;first|(simp_all;done)|(simp_all;omega)|grind
    skip
    refine Q382 ?_
    refine Q442 ?_
    refine Q331 ?_
    refine Xx V ?_ by5 by3
    clear HE HS HA HR HF HI HP HQ hask;first|(simp_all;done)|(simp_all;omega)|grind
   skip
   refine Q382 ?_
   refine Q382 ?_
   refine Q442 ?_
   refine Q331 ?_
   refine Xx V ?_ by5 by3
   clear HE HS HA HR HF HI HP HQ hask;first|(simp_all;done)|(simp_all;omega)|grind
  intro c54 h54
  refine Q1 ?_
  rcases Za h54 with ⟨rfl,g54⟩|⟨rfl,g54⟩
  ·refine Q242 ?_
   have h8:c8=true:=by
    cases c8 with
    | true=>rfl
    | false=>exact absurd (.inl rfl) g54
   have hsm:sm:=Classical.byContradiction fun q=>g54 (.inr (.inl q))
   have hak:ask:=Classical.byContradiction fun q=>g54 (.inr (.inr (.inl q)))
   have hra:rA=true:=by
    cases rA with
    | true=>rfl
    | false=>exact absurd (.inr (.inr (.inr (.inr rfl)))) g54
   obtain ⟨x,vs',rfl⟩:∃ x vs',vs=x::vs':=by
    cases vs with
    | nil=>exact absurd (.inr (.inr (.inr (.inl rfl)))) g54
    | cons x vs'=>exact ⟨x,vs',rfl⟩
   obtain ⟨⟨Wk,Ws,Wn,Wl⟩,c,P1,HF⟩:=HF x h8 hsm hak hra
   replace HI:=HI hsm
   replace HP:=HP x hsm
   replace HQ:=HQ x
   have hsc:∀ b∈sc,b.t.wd:=fun b hb=>(TK.small ((hask ▸ hak).1 b hb).1).1
   obtain ⟨⟨Rk,Rs,Rn,⟨Rtk,Rts,Rtn,Rtl⟩,Rus,Rks,Ral,Rbs⟩,hR⟩:∃ r,Co.put (sg x ⟨Ak,As,An,Al⟩) (Co.mk ek es en ⟨etk,ets,etn,etl⟩ eus eks eal ebs)=r:=⟨_,rfl⟩
   obtain ⟨⟨Uk,Us,Un,Ul⟩,hU⟩:∃ r,sg x ⟨Ak,As,An,Al⟩ ⟨Wk,Ws,Wn,Wl⟩=r:=⟨_,rfl⟩
   rw [hR] at HP HF
   rw [hU] at HF
   clear HS HA HR
   simp only [Ty.cells,Co.cells,List.cons_append,List.nil_append] at P1 HF HP HQ
   refine c_drawnEF [0,1,2,3,4,5,6,7,8,9,10,11,12,13] [11,12] [[],[],[1],[],[3],[3,4],[],[0,1,2,3,4,5,6],[0,1,2,3,4,5,6,7],[0,1,2,3,4,5,6,7,8],[0,1,2,3,4,5,6,7,8],[],[0,1,2,3,4,5,6,7,8,9,11],[0,1,2,3,4,5,6,7,8,9,10,11,12]] 11 (cs0:=[_,_,_,_]) Xl V V V V tz_24 V V (EOpsF.d 56 (some 0) (i:=0) V V V V V V (Yc (cs':=[_,_,_]) (i:=0) V ta_41 V V V V ⟨V,V⟩) ?_)
   refine EOpsF.d 57 (none) (i:=1) V V V V V V (Xe V tf_55_0 V V ⟨V,V⟩) ?_
   refine EOpsF.d 58 (none) (i:=2) V V V V V V (op_load_c1 V ta_27 V V ⟨V,V⟩) ?_
   refine EOpsF.d 59 (none) (i:=3) V V V V V V (Xe V tf_55_1 V V ⟨V,V⟩) ?_
   refine EOpsF.d 60 (none) (i:=4) V V V V V V (op_load_c1 V ta_44 V V ⟨V,V⟩) ?_
   refine EOpsF.d 61 (none) (i:=5) V V V V V V (op_cuth (k:=1) V te_44 V (.seq _ _) V (by omega) (by omega) ⟨V,V⟩) ?_
   refine EOpsF.d 62 (none) (i:=6) V V V V V V (Yb (cs':=[_,_,_,_,_,_,_,_,_,_,_]) V ta_29 V V V ⟨V,V⟩) ?_
   refine EOpsF.d 63 (none) (i:=7) V V V V V V (Zd (xs:=[.tmp 56,.tmp 58,.tmp 61,.tmp 62]) V V (P1) by1 ⟨V,V⟩) ?_
   refine EOpsF.d 55 (none) (i:=8) V V V V V V (op_move V V ⟨V,V⟩) ?_
   refine EOpsF.d 64 (none) (i:=9) V V V V V V (op_extract V V V ⟨V,V⟩) ?_
   refine EOpsF.d 65 (none) (i:=10) V V V V V V (op_extract V V V ⟨V,V⟩) ?_
   refine EOpsF.free (i:=11) V V V ?_;intro b9
   refine EOpsF.w 1 (i:=12) V V V V V V (Zu (cs':=[_,_,_,_]) (i:=0) V ts_24 V V V V V (Xz V) V ⟨_,V,?_⟩)
   refine EOpsF.d 10 (none) (i:=13) V V V V V V (op_assign V V ⟨V,V⟩) ?_
   show AGo _ _ _ _ _ _ _
   refine Q469 ?_
   refine Q26 ?_;intro c67 h67
   try replace h67:=Yo h67 h65
   refine Q226 ?_
   rcases Za h67 with ⟨rfl,g67⟩|⟨rfl,g67⟩
   ·refine Q242 ?_
    obtain ⟨P3,hWd,P2⟩:=HF (by simpa using g67)
    have HW:=HQ ⟨Wk,Ws,Wn,Wl⟩ hWd
    rw [Co.put] at HW
    rw [show Ty.turn (putO [x] [⟨Ak,As,An,Al⟩]) ⟨Wk,Ws,Wn,Wl⟩=⟨Uk,Us,Un,Ul⟩ from hU] at HW
    simp only [Ty.cells,Co.cells,List.cons_append,List.nil_append,List.map_nil,Co.puts,Ca.puts,Cb.puts] at HW
    refine Q51 ?_
    refine Q293 ?_
    refine Zx 70 V V (op_cuth (k:=1) V te_44 V (.seq _ _) V (by omega) (by omega) ⟨V,V⟩) ?_
    refine Q32 ?_
    refine Q87 ?_
    refine Zx 73 V V (Zh (xs:=[.tmp 72]) el_22 V V V V V V (Xz V) ⟨V,V⟩) ?_
    refine Q445 ?_
    show AGo _ _ _ _ _ _ _
    refine Q448 ?_
    refine Q383 ?_
    refine Q91 ?_;intro n76
    refine Q317 ?_
    refine ACode.ownNil (t:=13) 46 17 V ?_
    apply Ym (rg [(0,4),(6,1),(8,1),(10,1),(13,4),(23,52),(77,28)]) (σ:=Nat × Value) (fun zz=>match zz with|(i,u)=>[(13,.own u 17 (Cb.cellss ((sc.take i).map (Cb.plS x ⟨Ak,As,An,Al⟩)))),(77,.val (.int .i64 i))]) (fun zz=>match zz with|(i,u)=>[.own 46 17 u,.loc b7 [.seq 5 (Da.cellss da),.seq 6 (Cl.cellss cl),.seq 8 (In.cellss ins)],.loc b9 [.val (.int .i64 Wk),.val (.string Ws),.val (.int .i64 Wn),.seq 4 (Ty.cellss Wl)]]) (fun zz=>match zz with|(i,u)=>i≤sc.length∧∀ b∈sc.take i,x∉b.vs) (fun zz=>match zz with|(i,u)=>sc.length - i) ((0,.slice none 0 0))
    ·repeat' (first|exact Wc|apply Wa rfl|apply Wb rfl)
    ·exact ⟨Nat.zero_le _,by simp⟩
    ·exact by4
    ·exact by3
    rintro ⟨i,u⟩ hI
    try dsimp only [List.cons_append,List.nil_append] at hI ⊢
    obtain ⟨hi,hP⟩:=hI
    have hlt:(Cb.cellss ((sc.take i).map (Cb.plS x ⟨Ak,As,An,Al⟩))).length≤sc.length:=by rw [Cb.cellss_len,List.length_map,List.length_take];omega
    have hsl:sc.length≤120:=(hask ▸ hak).2.1
    refine Q318 ?_;intro c78 h78
    refine Q241 ?_
    rcases Za h78 with ⟨rfl,g78⟩|⟨rfl,g78⟩
    ·refine Q347 ?_
     rw [List.take_of_length_le (by omega)] at hP
     rw [List.take_of_length_le (by omega)]
     replace P2:=P2 hP
     refine Q51 ?_
     refine Q166 ?_
     refine Zx 106 V V (Zd (xs:=[.tmp 105]) V V (HI) by1 ⟨V,V⟩) ?_
     refine Q293 ?_
     refine Q224 ?_
     refine Q35 ?_
     refine Yr 111 V V (fun _ q=>Ze (xs:=[.tmp 106,.tmp 110]) V V (Has_c _ x) by1 q) ?_;intro c111 h111
     show AGo _ _ _ _ _ _ _
     refine Q1 ?_
     rcases Za h111 with ⟨rfl,g111⟩|⟨rfl,g111⟩
     ·refine Q242 ?_
      refine c_drawnEF [0,1,2,3,4,5,6,7,8,9,10,11,12] [10,11] [[],[],[],[],[],[2,3,4],[0,1,2,3,4,5],[0,1,2,3,4,5,6],[0,1,2,3,4,5,6,7],[0,1,2,3,4,5,6,7],[],[0,1,2,3,4,5,6,7,8,10],[0,1,2,3,4,5,6,7,8,9,10,11]] 10 (cs0:=[_,_,_,_]) Xl V V V V tz_24 V V (EOpsF.d 113 (some 1) (i:=0) V V V V V V (Yc (cs':=[_,_,_]) (i:=0) V ta_41 V V V V ⟨V,V⟩) ?_)
      refine EOpsF.d 114 (none) (i:=1) V V V V V V (op_move V V ⟨V,V⟩) ?_
      refine EOpsF.d 115 (none) (i:=2) V V V V V V (op_move V V ⟨V,V⟩) ?_
      refine EOpsF.d 116 (none) (i:=3) V V V V V V (op_move V V ⟨V,V⟩) ?_
      refine EOpsF.d 117 (none) (i:=4) V V V V V V (Yb (cs':=[_,_,_,_,_,_,_,_,_,_,_]) V ta_29 V V V ⟨V,V⟩) ?_
      refine EOpsF.d 118 (none) (i:=5) V V V V V V (Zd (xs:=[.tmp 115,.tmp 116,.tmp 117]) V V (HP) by1 ⟨V,V⟩) ?_
      refine EOpsF.d 119 (none) (i:=6) V V V V V V (Zd (xs:=[.tmp 113,.tmp 114,.const (.slice none 0 0),.tmp 118]) V V (P2) by1 ⟨V,V⟩) ?_
      refine EOpsF.d 112 (none) (i:=7) V V V V V V (op_move V V ⟨V,V⟩) ?_
      refine EOpsF.d 120 (none) (i:=8) V V V V V V (op_extract V V V ⟨V,V⟩) ?_
      refine EOpsF.d 121 (none) (i:=9) V V V V V V (op_extract V V V ⟨V,V⟩) ?_
      refine EOpsF.free (i:=10) V V V ?_;intro b17
      refine EOpsF.w 3 (i:=11) V V V V V V (Zu (cs':=[_,_,_,_]) (i:=0) V ts_24 V V V V V (Xz V) V ⟨_,V,?_⟩)
      refine EOpsF.d 18 (none) (i:=12) V V V V V V (op_assign V V ⟨V,V⟩) ?_
      show AGo _ _ _ _ _ _ _
      refine Q1 ?_
      refine Q270 ?_
      refine Q431 ?_
      refine Zb 126 V V V (Zp (ns:=[0,2]) (xs:=[.tmp 123,.tmp 125]) V tz_46 V tfl_46 V V V V (Zb 127 V V V (Yt (xs:=[.tmp 126]) el_27 V V V V V V (Xz V) ?_)));intro u127
      refine Q235 ?_
      refine Zb 130 V V V (Zw (i:=0) el_27 V V V V (.seq _ _) by6 ?_)
      intro u130
      refine Q238 ?_
      have P3:=ACall.args (vs:=[.agg [.seq 5 (Da.cellss da),.seq 6 (Cl.cellss cl),.seq 8 (In.cellss ins)],.seq 17 ([.val (.string es),.val (.slice none 0 0),.val (.int .i64 Ak),.val (.string As),.val (.int .i64 An),.seq 4 (Ty.cellss Al),.val (.int .i64 0),.val (.string ⟨#[]⟩),.val (.int .i64 0),.val (.int .i64 0),.val (.string ⟨#[]⟩),.val (.int .i64 0),.val (.slice none 0 0),.val (.slice none 0 0),.val (.slice none 0 0),.val (.slice none 0 0),.val (.slice none 0 0)]::Cb.cellss sc),.seq 1 (strs [x]),.agg _]) (Xv (Xt _) (Xv by0 (Xv (Xt _) (Xv (Xt _) (Xu _))))) P3
      refine c_drawnEF [0,1,2,3,4,5,6,7,8,9,10,11,12] [10,11] [[],[],[],[2],[2,3],[],[0,1,2,3,4,5],[0,1,2,3,4,5,6],[0,1,2,3,4,5,6,7],[0,1,2,3,4,5,6,7],[],[0,1,2,3,4,5,6,7,8,10],[0,1,2,3,4,5,6,7,8,9,10,11]] 10 (cs0:=[_,_,_,_]) Xl V V V V tz_24 V V (EOpsF.d 132 (some 2) (i:=0) V V V V V V (Yc (cs':=[_,_,_]) (i:=0) V ta_41 V V V V ⟨V,V⟩) ?_)
      refine EOpsF.d 133 (none) (i:=1) V V V V V V (op_move V V ⟨V,V⟩) ?_
      refine EOpsF.d 134 (none) (i:=2) V V V V V V (Xe V tf_55_1 V V ⟨V,V⟩) ?_
      refine EOpsF.d 135 (none) (i:=3) V V V V V V (op_load_c1 V ta_44 V V ⟨V,V⟩) ?_
      refine EOpsF.d 136 (none) (i:=4) V V V V V V (op_cuth (k:=1) V te_44 V (.seq _ _) V (by omega) (by omega) ⟨V,V⟩) ?_
      refine EOpsF.d 137 (none) (i:=5) V V V V V V (Yb (cs':=[_,_,_,_,_,_,_,_,_,_,_]) V ta_29 V V V ⟨V,V⟩) ?_
      refine EOpsF.d 138 (none) (i:=6) V V V V V V (Zd (xs:=[.tmp 132,.tmp 133,.tmp 136,.tmp 137]) V V (P3) by1 ⟨V,V⟩) ?_
      refine EOpsF.d 131 (none) (i:=7) V V V V V V (op_move V V ⟨V,V⟩) ?_
      refine EOpsF.d 139 (none) (i:=8) V V V V V V (op_extract V V V ⟨V,V⟩) ?_
      refine EOpsF.d 140 (none) (i:=9) V V V V V V (op_extract V V V ⟨V,V⟩) ?_
      refine EOpsF.free (i:=10) V V V ?_;intro b20
      refine EOpsF.w 5 (i:=11) V V V V V V (Zu (cs':=[_,_,_,_]) (i:=0) V ts_24 V V V V V (Xz V) V ⟨_,V,?_⟩)
      refine EOpsF.d 21 (none) (i:=12) V V V V V V (op_assign V V ⟨V,V⟩) ?_
      show AGo _ _ _ _ _ _ _
      refine Q1 ?_
      refine Q270 ?_
      refine Q34 ?_;intro c143 h143
      refine Q238 ?_
      have HT1:=SameType_c ⟨Uk,Us,Un,Ul⟩ ⟨Uk,Us,Un,Ul⟩
      have HT2:=SameType_c ⟨Wk,Ws,Wn,Wl⟩ ⟨Wk,Ws,Wn,Wl⟩
      simp only [Ty.cells] at HT1 HT2
      refine c_boold 6 (True) Xl V ?_ _ _ V ?_
      ·skip
       refine Q385 ?_
       refine Yg 146 V V V V (Yc (cs':=[_,_,_,_]) (i:=4) V Yi V V V V ⟨V,V⟩) ?_
       refine Q50 ?_
       refine Q50 ?_
       refine Q225 ?_
       refine Yg 150 V V V V (Zp (ns:=[3]) (xs:=[.tmp 149]) V tz_29 V tfl_29 V V V V ⟨V,V⟩) ?_
       refine Yg 151 V V V V (Zd (xs:=[.tmp 147,.tmp 148,.tmp 150]) V V (HW) by1 ⟨V,V⟩) ?_
       refine Yg 152 V V V V (op_fields (ft:=24) (fo:=3) (cs':=[_,_,_,_]) V (by kernel_rfl) Yi V V ⟨V,V⟩) ?_
       refine Ys 153 V V V V (fun _ q=>Ze (xs:=[.tmp 146,.tmp 152]) V V (HT1) by1 q) ?_;intro c153 h153
       refine Q371 ?_
       rcases Za h153 with ⟨rfl,g153⟩|⟨rfl,g153⟩
       ·skip
        refine Q414 ?_
        refine Q427 ?_
        refine Q427 ?_
        refine Q427 ?_
        refine Q12 ?_
        refine Q519 ?_
        show BoolQ _ _ _ _ _ _
        refine Xx V ?_ by5 by3
        clear HE HF HI HP HQ HW P1 P2 P3 HT1 HT2;first|exact absurd trivial g153|exact absurd rfl g153|exact ⟨fun _=>trivial,fun _=>rfl⟩|exact ⟨fun _=>trivial,fun _=>h163.2 trivial⟩|exact ⟨fun _=>trivial,fun _=>h163.2 rfl⟩|exact absurd trivial g163|(simp_all;done)|(simp_all;omega)|grind
       skip
       refine Q50 ?_
       refine Ys 157 V V V V (fun _ q=>op_notc V V q) ?_;intro c157 h157
       try replace h157:=Yo h157 h143
       refine Q50 ?_
       rcases Za h157 with ⟨rfl,g157⟩|⟨rfl,g157⟩
       ·skip
        refine Q50 ?_
        refine Q50 ?_
        refine Yg 161 V V V V (Yc (cs':=[_,_,_,_]) (i:=5) V Yi V V V V ⟨V,V⟩) ?_
        refine Q225 ?_
        refine Ys 163 V V V V (fun _ q=>Ze (xs:=[.tmp 161,.tmp 162]) V V (HT2) by1 q) ?_;intro c163 h163
        refine Q119 ?_
        refine Q119 ?_
        refine Q519 ?_
        show BoolQ _ _ _ _ _ _
        refine Xx V ?_ by5 by3
        clear HE HF HI HP HQ HW P1 P2 P3 HT1 HT2;first|exact absurd trivial g153|exact absurd rfl g153|exact ⟨fun _=>trivial,fun _=>rfl⟩|exact ⟨fun _=>trivial,fun _=>h163.2 trivial⟩|exact ⟨fun _=>trivial,fun _=>h163.2 rfl⟩|exact absurd trivial g163|(simp_all;done)|(simp_all;omega)|grind
       skip
       refine Q244 ?_
       refine Q427 ?_
       refine DOps.gu 163 V V V V ?_
       refine Q12 ?_
       refine Q119 ?_
       refine Q519 ?_
       show BoolQ _ _ _ _ _ _
       refine Xx V ?_ by5 by3
       clear HE HF HI HP HQ HW P1 P2 P3 HT1 HT2;first|exact absurd trivial g153|exact absurd rfl g153|exact ⟨fun _=>trivial,fun _=>rfl⟩|exact ⟨fun _=>trivial,fun _=>h163.2 trivial⟩|exact ⟨fun _=>trivial,fun _=>h163.2 rfl⟩|exact absurd trivial g163|(simp_all;done)|(simp_all;omega)|grind
      intro c6 h6
      refine Q303 ?_
      exact Zf V V (Xt _) (Xo _) (by rw [h6.2 trivial])
     refine Q285 ?_
     exact Zf V V (Xt _) (Xo _) V
    refine Q265 ?_
    obtain ⟨⟨zb,zvs,⟨zwk,zws,zwn,zwl⟩,⟨zk,zs,zn,⟨ztk,zts,ztn,ztl⟩,zus,zks,zal,zbs⟩⟩,hxz⟩:=Zr (l:=sc) (i:=i) by7
    have hcz:=Cb.cellss_get hxz
    have hmz:=We hxz
    refine Q4 ?_
    refine Zb 79 V V V (Zg V te_27 V (.seq _ _) V V (hcz) ?_)
    refine Q556 ?_;intro b15
    refine Q93 ?_
    refine Q426 ?_
    refine Q51 ?_
    refine Q392 ?_
    refine Q293 ?_
    refine Q224 ?_
    refine Q35 ?_
    refine Yr 87 V V (fun _ q=>Ze (xs:=[.tmp 82,.tmp 86]) V V (Has_c zvs x) by1 q) ?_;intro c87 h87
    show AGo _ _ _ _ _ _ _
    refine Q1 ?_
    rcases Za h87 with ⟨rfl,g87⟩|⟨rfl,g87⟩
    ·refine Q242 ?_
     have H16:=HQ ⟨zwk,zws,zwn,zwl⟩ (hsc _ hmz)
     have htz:=Yl hxz
     rw [Co.put] at H16
     obtain ⟨⟨Zk,Zs,Zn,Zl⟩,hZ⟩:∃ r,sg x ⟨Ak,As,An,Al⟩ ⟨zwk,zws,zwn,zwl⟩=r:=⟨_,rfl⟩
     rw [show Ty.turn (putO [x] [⟨Ak,As,An,Al⟩]) ⟨zwk,zws,zwn,zwl⟩=⟨Zk,Zs,Zn,Zl⟩ from hZ] at H16
     simp only [Ty.cells,Co.cells,List.cons_append,List.nil_append,List.map_nil,Co.puts,Ca.puts,Cb.puts] at H16
     have hpl:Cb.plS x ⟨Ak,As,An,Al⟩ (Cb.mk zb zvs ⟨zwk,zws,zwn,zwl⟩ ⟨zk,zs,zn,⟨ztk,zts,ztn,ztl⟩,zus,zks,zal,zbs⟩)=Cb.mk zb zvs ⟨Zk,Zs,Zn,Zl⟩ co0:=by rw [← hZ];rfl
     refine Q314 ?_
     refine Q506 ?_
     refine Zb 92 V V V (Zp (ns:=[3]) (xs:=[.tmp 91]) V tz_29 V tfl_29 V V V V (Zb 93 V V V (Zd (xs:=[.tmp 88,.tmp 89,.tmp 92]) V V (H16) by1 ?_)))
     refine Q133 ?_;intro b16
     refine Q134 ?_
     refine Q451 ?_
     refine Q272 ?_
     refine Q437 ?_
     refine Q49 ?_
     refine Zb 101 V V V (Zp (ns:=[0,1,2]) (xs:=[.tmp 96,.tmp 98,.tmp 100]) V tz_46 V tfl_46 V V V V (Zb 102 V V V (Zh (xs:=[.tmp 101]) el_27 V V V V V V (Xz V) ?_)))
     refine Zb 103 V V V (Zw (i:=2) el_27 V V V V (.seq _ _) (by simp only [List.length_map,List.length_reverse,List.length_cons,List.length_nil];omega) ?_)
     intro u103
     refine Q450 ?_
     refine ⟨(i+1,u103),⟨by show i+1≤sc.length;omega,fun b hb=>?_⟩,by show sc.length - (i+1)<sc.length - i;omega,Xw V (Le.own_lessA (by rw [htz,List.map_append,List.map_cons,List.map_nil,hpl,Cb.cellss_app];exact Less.app (Less.refl _) by0 )) by4,by3⟩
     rw [htz] at hb
     rcases List.mem_append.1 hb with q|q
     ·exact hP b q
     rw [List.mem_singleton] at q
     subst q
     exact g87
    refine Q285 ?_
    exact Zf V V (Xt _) (Xo _) V
   refine Q285 ?_
   exact Zf V V (Xt _) (Xo _) V
  refine Q285 ?_
  exact Zf V V (Xt _) (Xo _) V
 refine Q302 ?_
 exact absurd g24 (by simp)
theorem shapeL_ask21 {L:Nat} (hL:L≤140737488355328) {fuel:Nat} {cs:List AV} (h:ShapeL Tryz.prog L fuel 55 cs):∃ (sc:List Cb) (vs:List ByteArray) (A:Ty),cs=.seq 17 (Cb.cellss sc)::.seq 1 (strs vs)::A.cells:=by
 obtain ⟨n',hn',g⟩:=shapeL_struct Tryz.underlying55 h
 simp only [ShapeLF] at g
 obtain ⟨a1,b1,rfl,g1,a2,b2,rfl,g2,a3,b3,rfl,g3,rfl⟩:=g
 obtain ⟨sc,rfl,_⟩:=shapeL_cbs hL g1
 obtain ⟨vs,rfl,_⟩:=shapeL_strs g2
 obtain ⟨A,rfl,_⟩:=shapeL_ty _ _ _ g3
 exact ⟨sc,vs,A,by simp⟩
abbrev S23:List TypeId:=S22++[55]
theorem closed23:closedL Tryz.prog S23=true:=by kernel_rfl
theorem corePut_own:ownKnob Tryz.prog.godebug=none:=by kernel_rfl
theorem corePut_laidOut:laidOutB Tryz.prog=true:=by kernel_rfl
theorem corePut_lifted (os:Os) (started:os.Started) (H:Type) (enc:TypeId × Value→H) (F0:Stop.Interp) :
    ReturnsInHanded {} Tryz.checked os 6 .any ((Rows.OpenSpec.upto Rows.corePutSpec).pre6 enc Tryz.prog Tryz.f6 Rows.corePutUptoRow.domain false) (((Rows.OpenSpec.upto Rows.corePutSpec).at F0).post enc Tryz.prog Tryz.f6 false true false false):=by
 refine returnsInHanded_of_cond_sized (C:=Tryz.checked) (s:=(Rows.OpenSpec.upto Rows.corePutSpec)) (k:=Rows.uptoSmall) V corePut_own started (by kernel_rfl) Tryz.func6
  (upto_witness (enc:=enc) (C:=Tryz.checked) (s:=(Rows.OpenSpec.upto Rows.corePutSpec)) (k:=Rows.uptoSmall) rfl false ⟨#[],#[.string ⟨#[]⟩,.agg #[.int .i64 0,.string ⟨#[]⟩,.int .i64 0,.int .i64 0,.string ⟨#[]⟩,.int .i64 0,.slice none 0 0,.slice none 0 0,.slice none 0 0,.slice none 0 0,.slice none 0 0],.agg #[.slice none 0 0,.slice none 0 0,.int .i64 0,.string ⟨#[]⟩,.int .i64 0,.slice none 0 0]],[]⟩ 8 (by kernel_rfl) (by kernel_rfl) (by kernel_rfl) (by kernel_rfl) (by kernel_rfl)) ?_
 intro W base args ds gs before hval0 hW hcnd hk hsz0 _
 have hval:∀ (j:Nat) t v,Tryz.f6.params[j]?=some t→args[j]?=some v→Value.okWide Tryz.prog W .any base t v:=hval0
 have hsz:(DataW.weightsEach Tryz.prog (Tryz.f6.params.toList++Rows.corePutSpec.plain.varTypes Tryz.prog) (ds++gs)).all (·≤reachBytes)=true:=hsz0
 have hW':=hW
 obtain ⟨p,q,hA0,hV,rfl,hfz,hnd⟩:=hW
 have hA:DataW.TrodAll enc Tryz.prog W 0 (fun _=>true) true Tryz.f6.params.toList args.toList ds p:=hA0
 rw [Tryz.params6] at hA hval hsz
 obtain ⟨rfl,rfl⟩:=trodVars_none hV
 obtain ⟨v0,v1,v2,d0,d1,d2,p0,p1,p2,rfl,rfl,rfl,h0,h1,h2⟩:=trodAll_three hA
 obtain ⟨f0,c0,s0,r0,o0,_⟩:=open_two closed23 hsz 0 rfl rfl (by decide) h0
 obtain ⟨f1,c1,s1,r1,o1,b1⟩:=open_two closed23 hsz 1 rfl rfl (by decide) h1
 obtain ⟨f2,c2,s2,r2,o2,_⟩:=open_two closed23 hsz 2 rfl rfl (by decide) h2
 have hu:=upto_le (j:=1) hk rfl
 obtain ⟨s,_,rfl⟩:=shapeL_str Xf s0
 obtain ⟨e,rfl,hle⟩:=shapeL_co _ (by decide) _ _ s1
 obtain ⟨sc,vs,A,rfl⟩:=shapeL_ask21 (by decide) s2
 refine (law_run (CorePut_c s e sc vs A hle (by omega)) (.cons (rel_cell (okw_str Tryz.underlying9 (hval 0 9 v0 rfl rfl)) r0) (.cons (rel_agg' (by rw [Co.cells_len];decide) r1 o1) (.cons (rel_agg' (by simp) r2 o2) .nil)))).mono fun e W' ⟨he,hb⟩=>?_
 subst he
 exact ⟨_,V,law_post (s:=Rows.corePutSpec) (tb:=4) corePut_laidOut (by kernel_rfl) (by kernel_rfl) Tryz.underlying4 V V V V hW' hb⟩
theorem corePut_holds:Rows.CorePutUptoSaid :=
 OpenClaim.holds_of_cond 6 Tryz.f6 rfl rfl rfl rfl rfl rfl rfl ⟨rfl,rfl,rfl,rfl,rfl⟩ rfl rfl rfl rfl rfl (by kernel_rfl) Tryz.func6 (by kernel_rfl)
  (of_decide_eq_true (by kernel_rfl)) (by unfold Func.isWrapper;first|(rw [if_pos (by decide +kernel)];kernel_rfl)|(rw [if_neg (by decide +kernel)];exact ⟨rfl,rfl⟩))
  (fun os started H enc _ F0=>corePut_lifted os started H enc F0)
#print axioms corePut_holds
end Go.Proofs.YteepjjgooplljaaGreat
