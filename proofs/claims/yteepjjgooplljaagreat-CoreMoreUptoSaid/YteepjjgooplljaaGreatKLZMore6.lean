/- Parts of a proof: cognateref15: Pattern, all kinds; the document's core.Type: one walk through all kinds; the document's core rules: bind, let; the document's core rules: let; the document's core rules: cases; the document's core.Type, whole; the document's parser: next, is; the document's parser: fail, take, may, deeper; the document's parser: name, uppers, starts; the document's parser: atype, Type; the document's parser: apat, pat; fix.Level; cognateref04.Level; the document's operators: Level, Side, Clash; the document's parser: Build; the document's parser: bind, lambda; the document's parser: atom; the document's parser: atom, in brackets; the document's parser: operand; the document's parser: Exp -/
import Derived.Test.YteepjjgooplljaaGreatKLZMore5
set_option maxRecDepth 100000
set_option maxHeartbeats 4000000
namespace Go.Proofs.YteepjjgooplljaaGreat
open Go.RowKit
theorem rPat_c (v:En) (hv:EnT v):∀ (d:Nat) (p:Pa) (t:Ty),p.size≤d→p.size≤90000000000→t.wd→PatC v p t (patR v p t)
 | 0,p,t,h,_,_=>by cases p;rw [Pa.size] at h;omega
 | d+1,.mk k s n ks pp,t,h,hz,ht=>by
  rw [Pa.size] at h hz
  have IH:=rPat_c v hv d
  rw [patR]
  by_cases h1:k=1
  ·rw [if_pos h1,h1];exact rPat_1 v s n ks pp t
  rw [if_neg h1]
  by_cases h2:k=2
  ·rw [if_pos h2,h2];exact rPat_2 v s n ks pp t
  rw [if_neg h2]
  by_cases h4:k=4
  ·rw [if_pos h4,h4];exact rPat_4 v s n ks pp t
  rw [if_neg h4]
  have htk:t.kids.length≤1000000:=by
   obtain ⟨tk,tn,tm,tl⟩:=t
   rw [Ty.wd] at ht
   exact ht.1
  cases hc:conC s v.da with
  | none=>exact rPat_none v k s n ks pp t ⟨h1,h2,h4⟩ tyZ (rConTy_none v s t.kids hc)
  | some dc =>
   obtain ⟨⟨ds,dps,dcs,ddv,dp⟩,⟨cs,cts,cp⟩⟩:=dc
   have hcJ:=conJ_some (i0:=0) hc
   obtain ⟨i,j,hij,hi,hj⟩:=hcJ
   replace hj:dcs[j]?=some (.mk cs cts cp):=hj
   obtain ⟨hv1,hv2⟩:=hv.ct _ (Wg hi) _ (Wg hj)
   replace hv1:cts.length≤1000000:=hv1
   replace hv2:∀ u∈cts,u.wd:=fun u hu=>Ty.size_wd _ u (Nat.le_refl _) (by have:u.size≤9000:=hv2 u hu;omega)
   have HT:=rConTy_some v s t.kids _ _ hc hv2 htk
   replace HT:PCall Tryz.prog 206 [.agg v.cells,.val (.string s),.seq 4 (Ty.cellss t.kids)] (if dps.length=t.kids.length then .tup [.agg (chainF (cts.map (Ty.turn (putO dps t.kids))) (.mk 3 ds 0 t.kids)).cells,.val (.bool true)] else .tup [.agg tyZ.cells,.val (.bool false)]):=HT
   show PatC v (.mk k s n ks pp) t (if t.kind≠3∨dps.length≠t.kids.length∨cts.length≠ks.length then ([],false) else endP (patCs v ks (cts.map (Ty.turn (putO dps t.kids)))) (sameB ds t.name))
   by_cases hpl:¬ dps.length=t.kids.length
   ·rw [if_neg hpl] at HT
    rw [if_pos (.inr (.inl hpl))]
    exact rPat_none v k s n ks pp t ⟨h1,h2,h4⟩ tyZ HT
   replace hpl:=Classical.not_not.1 hpl
   rw [if_pos hpl] at HT
   have hkw:∀ u∈t.kids,u.wd:=fun u hu=>by
    obtain ⟨tk,tn,tm,tl⟩:=t
    rw [Ty.wd] at ht
    exact (Ty.wds_iff _).1 ht.2 u hu
   have hTW:=fun u (hu:u∈cts)=>Ty.turn_wd (o:=putO dps t.kids) (putO_wd hkw) _ u (Nat.le_refl _) (hv2 u hu)
   have HC:=rCon_c v s
   rw [hij,show 0+i=i by omega] at HC
   unfold conU at HC
   have hci:=Da.cellss_get hi
   have hcj:=Cn.cellss_get hj
   have hlc:=Ty.cellss_len cts
   have hlk:=Pa.cellss_len ks
   obtain ⟨rr,hrr⟩:∃ rr,patCs v ks (cts.map (Ty.turn (putO dps t.kids)))=rr:=⟨_,rfl⟩
   rw [hrr]
   obtain ⟨r,hr⟩:∃ r,(if t.kind≠3∨dps.length≠t.kids.length∨cts.length≠ks.length then (([],false):List Cb × Bool) else endP rr (sameB ds t.name))=r:=⟨_,rfl⟩
   rw [hr]
   clear hv hc hij hi hj hkw ht htk
   obtain ⟨tk,tn,tm,tl⟩:=t
   simp only [Ty.kids] at *
   replace hr:(if tk≠3∨dps.length≠tl.length∨cts.length≠ks.length then (([],false):List Cb × Bool) else endP rr (sameB ds tn))=r:=hr
   generalize hF:Ty.turn (putO dps tl)=F at *
   clear hF
   obtain ⟨⟨Ck,Cs,Cn,Cl⟩,hC0⟩:∃ C,chainF (cts.map F) (.mk 3 ds 0 tl)=C:=⟨_,rfl⟩
   rw [hC0] at HT
   obtain ⟨da,cl,ins⟩:=v
   unfold PatC wpC at *
   simp only [En.cells,En.da,List.cons_append,List.nil_append] at *
   refine QeD ?_
   refine Qbj ?_
   refine QcN ?_
   refine QcE ?_
   refine Qbi ?_
   refine QaE ?_;intro c19 h19
   refine Qa ?_
   obtain ⟨rfl,g19⟩|⟨rfl,g19⟩:=Za h19
   ·refine QaC ?_
    refine QaE ?_;intro c22 h22
    refine Qa ?_
    obtain ⟨rfl,g22⟩|⟨rfl,g22⟩:=Za h22
    ·refine QaC ?_
     refine QaE ?_;intro c29 h29
     refine Qa ?_
     obtain ⟨rfl,g29⟩|⟨rfl,g29⟩:=Za h29
     ·refine QV ?_
      refine Qc9 ?_
      refine Qd ?_
      refine Zb 39 U U U (Zd (xs:=[.tmp 34,.tmp 36,.tmp 38]) U U (HT) by2 ?_)
      refine QdA ?_;intro b8
      refine QO ?_
      refine Q1 ?_
      refine Zw 48 (¬ tk=3) ?_ _ _ U ?_
      ·skip
       refine Qbx ?_;intro c43 h43
       try replace h43:=Ym h43 h41
       refine Qb ?_
       obtain ⟨rfl,g43⟩|⟨rfl,g43⟩:=Za h43
       ·skip
        refine QA ?_
        refine Qax ?_;intro c47 h47
        refine Qm ?_
        refine Wa U ?_ by6 by4
        clear HT HC IH;first|(simp_all;done)|grind
       skip
       refine Qc5 ?_
       refine Wa U ?_ by6 by4
       clear HT HC IH;first|(simp_all;done)|grind
      intro c48 h48
      refine Qc ?_
      obtain ⟨rfl,g48⟩|⟨rfl,g48⟩:=Za h48
      ·refine QV ?_
       refine Qs ?_
       refine Qs ?_
       refine Qc9 ?_
       refine Zb 54 U U U (Zd (xs:=[.tmp 51,.tmp 53]) U U (HC) by2 ?_)
       refine Qa0 ?_
       refine Qs ?_
       refine QaR ?_
       refine QT ?_
       refine Qg8 ?_
       refine QT ?_
       refine Qg9 ?_
       refine Qd ?_
       refine QY ?_;intro n68
       refine QU ?_
       refine Qd ?_
       refine Qeg ?_;intro n72
       refine QP ?_;intro c73 h73
       refine Qa ?_
       obtain ⟨rfl,g73⟩|⟨rfl,g73⟩:=Za h73
       ·refine QbK ?_
        have hlen:cts.length=ks.length:=by omega
        rw [if_neg (by rintro (q|q|q);exact g48 q;exact q hpl;exact q hlen)] at hr
        refine QaN ?_
        refine Yp 249 8 ?_
        apply Yl (rg [(0,3),(6,2),(9,93)]) (σ:=Nat × List Cb × Value × Ty) (fun zz=>match zz with|(m,out,u,C)=>[(10,.val (.int .i64 (Ty.cellss cts).length)),(11,.own u 8 (enCs out)),(14,.val (.int .i64 m))]) (fun zz=>match zz with|(m,out,u,C)=>[.loc b8 C.cells,.own 249 8 u]) (fun zz=>match zz with|(m,out,u,C)=>m≤ks.length∧out.length+Pa.sizes (ks.drop m)≤Pa.sizes ks∧C=chainF ((cts.drop m).map F) (.mk 3 ds 0 tl)∧(patCs (.mk da cl ins) (ks.drop m) ((cts.map F).drop m)).map (out++·)=rr) (fun zz=>match zz with|(m,out,u,C)=>ks.length - m) ((0,[],.slice none 0 0,⟨Ck,Cs,Cn,Cl⟩))
        ·repeat' (first|exact Wf|apply Wd rfl|apply We rfl)
        ·exact ⟨Nat.zero_le _,by simp,by rw [List.drop_zero];exact hC0.symm,by rw [List.drop_zero,List.drop_zero,hrr];cases rr <;> simp⟩
        ·exact Xy U (Xu _) (Xy U (Le.nilOwn 8) (Xy U (Xu _) by5))
        ·exact by4
        rintro ⟨m,out,u,⟨ck,cs2,cn,ck2⟩⟩ hI
        try dsimp only [List.cons_append,List.nil_append] at hI ⊢
        obtain ⟨hm,hsz2,hC,hD⟩:=hI
        have hol:=enCs_len out
        refine QaA ?_
        refine Qg ?_;intro c76 h76
        refine Qa ?_
        obtain ⟨rfl,g76⟩|⟨rfl,g76⟩:=Za h76
        ·refine Qag ?_
         rw [Wh by17] at hC
         replace hC:Ty.mk ck cs2 cn ck2=.mk 3 ds 0 tl:=hC
         cases hC
         refine Q6 ?_
         refine QF ?_
         refine Qbv ?_
         refine Q3 ?_
         refine Yj 107 U U (fun _ q=>op_seql U U U q) ?_;intro c107 h107
         refine Qdz ?_
         show AGo _ _ _ _ _ _ _
         refine QI ?_
         rw [Wh by17,patCs] at hD
         ·have hr2:rr=some out:=by rw [← hD];simp
          subst hr2
          have hr3:(out,sameB ds tn)=r:=hr
          subst hr3
          exact Yn rfl rfl rfl (Le.tup (Xw (Le.own _ _ _) (Xw (Le.beq (by cases hs:sameB ds tn with
           | true=>exact h107.2 (Yt.1 hs)
           | false=>cases c107 with
            | false=>rfl
            | true=>rw [Yt.2 (h107.1 rfl)] at hs;exact hs)) (Xv _)))) (Xp _) ⟨rfl,rfl⟩
         simp
        refine Qk ?_
        obtain ⟨⟨qk,qs,qn,ql,qp⟩,hxq⟩:=Zj (l:=ks) (i:=m) by8
        have hcq:=Pa.cellss_get hxq
        have hmq:=Wg hxq
        obtain ⟨⟨uk,us,un,ul⟩,hu⟩:=Zj (l:=cts) (i:=m) by17
        have hAu:(cts.map F)[m]?=some (F ⟨uk,us,un,ul⟩):=by rw [List.getElem?_map,hu];rfl
        have hTu:=hTW _ (Wg hu)
        have hqs:=Pa.size_kid hmq
        rw [Zz hxq,Zz hAu,patCs] at hD
        rw [Zz hxq,Pa.sizes] at hsz2
        rw [Zz hu,List.map_cons] at hC
        obtain ⟨⟨fk,fs,fn,fl⟩,hfu⟩:∃ y,F ⟨uk,us,un,ul⟩=y:=⟨_,rfl⟩
        rw [hfu] at hTu hD hC
        obtain ⟨⟨ek,es,en,el⟩,he⟩:∃ y,chainF ((cts.drop (m+1)).map F) (.mk 3 ds 0 tl)=y:=⟨_,rfl⟩
        replace hC:Ty.mk ck cs2 cn ck2=.mk 3 arrow 0 [⟨fk,fs,fn,fl⟩,⟨ek,es,en,el⟩]:=by rw [hC,← he];rfl
        cases hC
        have hc0:=Ty.cellss_get (ts:=[⟨fk,fs,fn,fl⟩,⟨ek,es,en,el⟩]) (i:=0) (t:=⟨fk,fs,fn,fl⟩) rfl
        have hc1:=Ty.cellss_get (ts:=[⟨fk,fs,fn,fl⟩,⟨ek,es,en,el⟩]) (i:=1) (t:=⟨ek,es,en,el⟩) rfl
        have HQ:=IH ⟨qk,qs,qn,ql,qp⟩ ⟨fk,fs,fn,fl⟩ by17 by17 hTu
        have hql:=patC_len (.mk da cl ins) ⟨qk,qs,qn,ql,qp⟩ ⟨fk,fs,fn,fl⟩
        obtain ⟨hR2,hR1⟩:=patR_patC (.mk da cl ins) ⟨qk,qs,qn,ql,qp⟩ ⟨fk,fs,fn,fl⟩
        obtain ⟨o,ho⟩:∃ o,patC (.mk da cl ins) ⟨qk,qs,qn,ql,qp⟩ ⟨fk,fs,fn,fl⟩=o:=⟨_,rfl⟩
        rw [ho] at hD hql hR2 hR1
        generalize patR (.mk da cl ins) ⟨qk,qs,qn,ql,qp⟩ ⟨fk,fs,fn,fl⟩=pr at *
        obtain ⟨pl,c92⟩:=pr
        replace HQ:PCall Tryz.prog 175 _ (.tup [.seq 8 (enCs pl),.val (.bool c92)]):=HQ
        replace hR2:c92=o.isSome:=hR2
        replace hR1:∀ l,o=some l→pl=l:=hR1
        have hgl:=enCs_len pl
        refine Q6 ?_
        refine Zq 80 U U (Zt (cs':=[_,_,_,_,_,_]) U ta_229 U U U ⟨U,U⟩) ?_
        refine QaF ?_
        refine Zq 84 U U (Zh U te_65 U (.seq _ _) U U (by first|exact hcq|exact hc0) ⟨U,U⟩) ?_
        refine Zq 85 U U (Zt (cs':=[_,_,_,_,_]) U ta_67 U U U ⟨U,U⟩) ?_
        refine Qbv ?_
        refine Zq 88 U U (Zh U te_22 U (.seq _ _) U U (by first|exact hcq|exact hc0) ⟨U,U⟩) ?_
        refine Qb5 ?_
        refine Zq 90 U U (Zd (xs:=[.tmp 80,.tmp 85,.tmp 89]) U U (HQ) by2 ⟨U,U⟩) ?_
        refine QF ?_
        refine Qb7 ?_
        refine Qb7 ?_
        refine Qdz ?_
        show AGo _ _ _ _ _ _ _
        refine Qc ?_
        refine QS ?_
        refine Q5 ?_;intro c94 h94
        try replace h94:=Ym h94 h92
        refine Qa ?_
        obtain ⟨rfl,g94⟩|⟨rfl,g94⟩:=Za h94
        ·refine Qp ?_
         obtain ⟨a,rfl⟩:∃ a,o=some a:=by
          cases o with
          | none=>subst hR2;exact absurd rfl g94
          | some a=>exact ⟨a,rfl⟩
         obtain rfl:pl=a:=hR1 a rfl
         have hla:pl.length≤_:=hql pl rfl
         have hD:(match patCs (.mk da cl ins) (ks.drop (m+1)) ((cts.map F).drop (m+1)) with
          | none=>none
          | some x=>some (pl++x)).map (out++·)=rr:=hD
         refine Q8 ?_
         refine Zb 97 U U U (Zv (i:=1) el_226 U U U U (.seq _ _) by7 ?_)
         intro u97
         refine Qj ?_
         refine Qi ?_
         refine Qn ?_
         refine Zb 100 U U U (Zh U te_22 U (.seq _ _) U U (hc1) ?_)
         refine Q7 ?_
         refine QO ?_
         refine Qa2 ?_
         refine QcS ?_
         refine ⟨(m+1,out++pl,u97,⟨ek,es,en,el⟩),⟨by show m+1≤ks.length;omega,by show (out++pl).length+Pa.sizes (ks.drop (m+1))≤Pa.sizes ks;rw [List.length_append];omega,he.symm,?_⟩,by show ks.length - (m+1)<ks.length - m;omega,Xy U (Xu _) (Xy U (Wb (by unfold enCs;rw [List.map_append])) by5),by4⟩
         rw [← hD]
         cases patCs (.mk da cl ins) (ks.drop (m+1)) ((cts.map F).drop (m+1)) with
         | none=>rfl
         | some x=>simp
        refine QaZ ?_
        have ho2:o=none:=by
         cases o with
         | none=>rfl
         | some a=>subst hR2;exact absurd g94 by18
        subst ho2
        have hr2:rr=none:=by rw [← hD];rfl
        subst hr2
        have hr3:([],false)=r:=hr
        subst hr3
        exact Yn U U U (Le.tup (Xw (Xx 8) (Xv _))) (Xp _) ⟨U,U⟩
       refine QaZ ?_
       rw [if_pos (.inr (.inr by17))] at hr
       subst hr
       exact Yn U U U (Le.tup (Xw (Xx 8) (Xv _))) (Xp _) ⟨U,U⟩
      refine QaZ ?_
      rw [if_pos (.inl g48)] at hr
      subst hr
      exact Yn U U U (Le.tup (Xw (Xx 8) (Xv _))) (Xp _) ⟨U,U⟩
     exact absurd g29 h4
    exact absurd g22 h2
   exact absurd g19 h1
abbrev RT (v:En) (pm:List Pm) (sc:List Cb) (vs:List ByteArray) (e:Co) (r:Ty × Bool):Prop:=PCall Tryz.prog 78 [.agg (wcC v (Pm.cellss pm) sc vs),.agg e.cells] (.tup [.agg r.1.cells,.val (.bool r.2)])
theorem RTypC_of {v:En} {pm:List Pm} {sc:List Cb} {vs:List ByteArray} {e:Co} {r:Ty × Bool} (h:RT v pm sc vs e (nrm r)):RTypC v pm sc vs e r:=by
 unfold RTypC
 rw [show AV.val (.bool r.2)=.val (.bool (nrm r).2) by cases q:r.2 with
  | true=>rw [nrm_t q,q]
  | false=>rw [nrm_f q]]
 exact h
abbrev NoBr (v:En):Prop:=∀ s,isBr s=true→arityR v s<0
abbrev AreC (v:En) (pm:List Pm) (sc:List Cb) (vs:List ByteArray) (ks:List Co) (l:List Ty) (ns:List ByteArray) (ts:List Ty) (w:Bool):Prop:=BCall Tryz.prog 130 [.agg (wcC v (Pm.cellss pm) sc vs),.seq 11 (Co.cellss ks),.seq 4 (Ty.cellss l),.seq 1 (strs ns),.seq 4 (Ty.cellss ts)] (w=true)
abbrev PartsR (v:En) (s:ByteArray) (t:Ty) (l:List Ty) (c:Bool):Prop:=PCall Tryz.prog 137 [.agg v.cells,.val (.string s),.agg t.cells] (.tup [.seq 4 (Ty.cellss l),.val (.bool c)])
structure RTF (v:En) (pm:List Pm) (sc:List Cb) (vs:List ByteArray) (k m:Int) (s:ByteArray) (t:Ty) (ts:List Ty) (ks:List Co) (al:List Ca) (bs:List Cb) (r:Ty × Bool):Prop where
 hk:0≤kidsC k∧¬ kidsC k=ks.length→r=(tyZ,false)
 h1:k=1→varC sc s ts=r∧∀ b,findL s sc=some b→b.t.wd
 h2:k=2→r=(tInt,true)
 h3:k=3→r=(tStr,true)
 h4:k=4→∃ (I J:Int) (ds:ByteArray) (dps:List ByteArray) (dcs:List Cn) (ddv:List ByteArray) (dp:Int) (cs:ByteArray) (cts:List Ty) (cp:Int) (w:Bool),PCall Tryz.prog 129 [.agg v.cells,.val (.string s)] (.tup [.val (.int .i64 I),.val (.int .i64 J)])∧(I<0∨0≤J)∧(¬ I<0→v.da[I.toNat]?=some (.mk ds dps dcs ddv dp)∧dcs[J.toNat]?=some (.mk cs cts cp)∧(dps.length=ts.length→AreC v pm sc vs ks cts dps ts w))∧IfT (¬ I<0∧dps.length=ts.length∧w=true) (.mk 3 ds 0 ts) r
 h5:k=5→∀ f x,ks=[f,x]→∃ (N Y:Ty) (c d:Bool) (a b:Ty),RT v pm sc vs f (N,c)∧RT v pm sc vs x (Y,d)∧(N.isFun→N.kids=[a,b])∧IfT (c=true∧d=true∧N.isFun∧a=Y) b r
 h6:k=6→∀ x,ks=[x]→∃ (N:Ty) (c:Bool),RT v pm (sc++[.mk s [] t co0]) vs x (N,c)∧IfT (c=true∧rightC v vs t=true) (.mk 3 arrow 0 [t,N]) r
 h7:k=7→ks.length=1→PCall Tryz.prog 133 [.agg (wcC v (Pm.cellss pm) sc vs),.agg (Co.mk k s m t ts ks al bs).cells] (.tup [.agg r.1.cells,.val (.bool r.2)])
 h8:k=8→ks.length=1→PCall Tryz.prog 134 [.agg (wcC v (Pm.cellss pm) sc vs),.agg (Co.mk k s m t ts ks al bs).cells] (.tup [.agg r.1.cells,.val (.bool r.2)])
 h9:k=9→(m<1∨pm.length<m)∧r=(tyZ,false)∨∃ (qs:ByteArray) (qo qn:Int) (qvs:List ByteArray) (qps:List Pr) (q:Ty) (A:List Ty) (N Y:Ty) (w:Bool),¬ (m<1∨pm.length<m)∧pm[(m - 1).toNat]?=some (.mk qs qo qn (.mk qvs qps q))∧PCall Tryz.prog 135 [.agg q.cells] (.seq 4 (Ty.cellss A))∧PCall Tryz.prog 136 [.agg q.cells] (.agg N.cells)∧(qvs.length=ts.length→PCall Tryz.prog 49 [.seq 1 (strs qvs),.seq 4 (Ty.cellss ts),.agg N.cells] (.agg Y.cells)∧AreC v pm sc vs ks A qvs ts w)∧IfT (qvs.length=ts.length∧w=true) Y r
 h10:k=10→∃ (l:List Ty) (c w:Bool),PartsR v s t l c∧(c=true→AreC v pm sc vs ks l [] [] w)∧IfT (c=true∧rightC v vs t=true∧w=true) (.mk 3 (kBr++s) 0 [t]) r
 h11:k=11→∀ x,ks=[x]→∃ (N:Ty) (c:Bool),RT v pm sc vs x (N,c)∧SelG s m N c r (PartsR v s)
 hz:k<1∨11<k→r=(tyZ,false)
theorem rAnd1_c (v:En) (pm:List (List AV)) (sc:List Cb) (s:ByteArray) (t:Ty) (vs:List ByteArray) (h1:sc.length≤1000000000) (h3:vs.length≤1000000000):PCall Tryz.prog 77 [.agg (wcC v pm sc vs),.seq 17 [.val (.string s)::.val (.slice none 0 0)::(t.cells++[.val (.int .i64 0),.val (.string ⟨#[]⟩),.val (.int .i64 0),.val (.int .i64 0),.val (.string ⟨#[]⟩),.val (.int .i64 0),.val (.slice none 0 0),.val (.slice none 0 0),.val (.slice none 0 0),.val (.slice none 0 0),.val (.slice none 0 0)])],.val (.slice none 0 0)] (.agg (wcC v pm (sc++[.mk s [] t co0]) vs)):=by
 have HM:=rAnd_c v pm sc [.mk s [] t co0] vs [] h1 by18 h3 by18
 rw [List.append_nil] at HM
 refine ACall.args (Xw (Xu _) (Xw (Le.seq ?_) (Xw (Xx 1) (Xv _)))) HM
 obtain ⟨tk,tn,tm,tl⟩:=t
 simp only [Cb.cellss,Cb.cells,Co.cells,Ty.cells,Ty.cellss,Co.cellss,Ca.cellss,List.cons_append,List.nil_append]
 exact Less.cons by1 U Less.nil
theorem rt_one (v:En) (hbr:NoBr v) (pm:List Pm) (sc:List Cb) (vs:List ByteArray) (k m:Int) (s:ByteArray) (t:Ty) (ts:List Ty) (ks:List Co) (al:List Ca) (bs:List Cb) (r:Ty × Bool) (htl:ts.length≤1000000) (hs:s.size≤1000000000000) (hsl:sc.length≤1000000000) (hvl:vs.length≤1000000000) (h0:ts.all (rightC v vs)=false→r=(tyZ,false)) (H:ts.all (rightC v vs)=true→RTF v pm sc vs k m s t ts ks al bs r):RT v pm sc vs (.mk k s m t ts ks al bs) r:=by
 have HR:=fun x=>rRight_c v hbr vs x
 have HG:=HR t
 have HK:=rkids_c k
 have hlt:=Ty.cellss_len ts
 have hlk:=Co.cellss_len ks
 have hls:=Cb.cellss_len sc
 have hlp:=Pm.cellss_len pm
 have hk2:(⟨#[123]⟩:ByteArray).size=1:=rfl
 generalize hn:kidsC k=n at HK
 clear hbr
 obtain ⟨tk,tn,tm,tl⟩:=t
 obtain ⟨da,cl,ins⟩:=v
 unfold RT wcC
 simp only [En.cells,List.cons_append,List.nil_append] at HR HG ⊢
 refine Zc Tryz.func78 U (by kernel_rfl) U (Wc U) ?_
 refine QN ?_
 refine c_lena (t:=0) (j:=3) U U (.seq _ _) (fun hmax=>?_)
 refine c_lena (t:=0) (j:=5) U U (.seq _ _) (fun hmaxp=>?_)
 refine Ql ?_
 refine Qem ?_
 refine Qdh ?_
 refine QE ?_;intro b4
 refine Qs ?_
 refine QeH ?_
 refine QE ?_;intro b6
 refine QO ?_
 refine Qa8 ?_
 refine Qab ?_
 apply Zu (rg [(0,2),(5,1),(7,1),(26,20)]) (σ:=Nat) (fun zz=>match zz with|i=>[(7,.val (.int .i64 i))]) (fun zz=>match zz with|i=>i≤ts.length∧(ts.drop i).all (rightC (.mk da cl ins) vs)=ts.all (rightC (.mk da cl ins) vs)) (fun zz=>match zz with|i=>ts.length - i) (0)
 ·repeat' (first|exact Wf|apply Wd rfl|apply We rfl)
 ·exact ⟨Nat.zero_le _,U⟩
 ·exact by5
 rintro i hI
 try dsimp only [List.cons_append,List.nil_append] at hI ⊢
 obtain ⟨hi,hA⟩:=hI
 refine Qav ?_
 refine QY ?_;intro n30
 refine Qg ?_;intro c31 h31
 refine Qa ?_
 obtain ⟨rfl,g31⟩|⟨rfl,g31⟩:=Za h31
 ·refine Qag ?_
  rw [Wh by17] at hA
  replace H:=H hA.symm
  clear h0 HR hA
  refine Qi ?_
  refine Qd ?_
  refine Zb 48 U U U (Zd (xs:=[.tmp 47]) U U (HK) by2 ?_)
  refine Q1 ?_
  refine Zw 57 (0≤n∧¬ n=ks.length) ?_ _ _ U ?_
  ·skip
   refine QbG ?_;intro c50 h50
   refine Qb ?_
   obtain ⟨rfl,g50⟩|⟨rfl,g50⟩:=Za h50
   ·skip
    refine QaH ?_
    refine Wa U ?_ by6 by4
    clear H HG HK;first|(simp_all;done)|(simp_all;omega)|grind
   skip
   refine Qf ?_
   refine QA ?_
   refine Zo 55 U U U U U (Yw U tu_25 U (.seq _ _) (fun n55=>?_))
   refine Qax ?_;intro c56 h56
   refine Qm ?_
   refine Wa U ?_ by6 by4
   clear H HG HK;first|(simp_all;done)|(simp_all;omega)|grind
  intro c57 h57
  refine Qc ?_
  obtain ⟨rfl,g57⟩|⟨rfl,g57⟩:=Za h57
  ·refine QaC ?_
   refine Qd ?_
   refine Qdl ?_
   refine Ql ?_
   refine Qz ?_;intro c62 h62
   refine Qj ?_
   obtain ⟨rfl,g62⟩|⟨rfl,g62⟩:=Za h62
   ·refine Qaj ?_;intro c98 h98
    refine Qj ?_
    obtain ⟨rfl,g98⟩|⟨rfl,g98⟩:=Za h98
    ·refine Qaj ?_;intro c101 h101
     refine Qj ?_
     obtain ⟨rfl,g101⟩|⟨rfl,g101⟩:=Za h101
     ·refine Qaj ?_;intro c104 h104
      refine Qj ?_
      obtain ⟨rfl,g104⟩|⟨rfl,g104⟩:=Za h104
      ·refine Qaj ?_;intro c168 h168
       refine Qj ?_
       obtain ⟨rfl,g168⟩|⟨rfl,g168⟩:=Za h168
       ·refine Qaj ?_;intro c213 h213
        refine Qj ?_
        obtain ⟨rfl,g213⟩|⟨rfl,g213⟩:=Za h213
        ·refine Qaj ?_;intro c248 h248
         refine Qj ?_
         obtain ⟨rfl,g248⟩|⟨rfl,g248⟩:=Za h248
         ·refine Qaj ?_;intro c255 h255
          refine Qj ?_
          obtain ⟨rfl,g255⟩|⟨rfl,g255⟩:=Za h255
          ·refine Qaj ?_;intro c262 h262
           refine Qj ?_
           obtain ⟨rfl,g262⟩|⟨rfl,g262⟩:=Za h262
           ·refine Qaj ?_;intro c314 h314
            refine Qj ?_
            obtain ⟨rfl,g314⟩|⟨rfl,g314⟩:=Za h314
            ·refine Qaj ?_;intro c354 h354
             refine Qj ?_
             obtain ⟨rfl,g354⟩|⟨rfl,g354⟩:=Za h354
             ·refine Qbr ?_
              refine Ql ?_
              refine Q9 ?_
              refine Qaa ?_
              obtain rfl:=H.hz by17
              exact Zy (i:=1) U U U U Zx U by1 (Xp _) ⟨U,U⟩
             refine QM ?_
             obtain ⟨x,rfl⟩:∃ x,ks=[x]:=List.length_eq_one_iff.1 (by rw [g354] at hn;have:kidsC 11=1:=rfl;omega)
             obtain ⟨⟨nk,ns,nn,nl⟩,c363,HX,hrz,HF⟩:=H.h11 g354 x rfl
             clear H HK HG
             unfold RT wcC at HX
             simp only [En.cells,List.cons_append,List.nil_append] at HX
             have hcx:=Co.cellss_get (ts:=[x]) (i:=0) (t:=x) rfl
             have hln:=Ty.cellss_len nl
             obtain ⟨xk,xs,xn,⟨xtk,xts,xtn,xtl⟩,xus,xks,xal,xbs⟩:=x
             replace hrz:¬ (c363=true∧nk=3∧ns=kBr++s∧nl.length=1)→r=(tyZ,false):=hrz
             refine QdS ?_
             refine Qd4 ?_
             refine Qda ?_
             refine Zi 361 (none) (i:=5) U U U U U (Zd (xs:=[.tmp 356,.tmp 360]) U U (HX) by2 ⟨U,U⟩) ?_
             refine Qb4 ?_
             refine Xa (i:=9) U U U (Yb (cs':=[_,_,_,_]) U tz_24 U U (fun b22=>⟨_,U,?_⟩))
             refine Qd3 ?_
             refine QZ ?_
             show AGo _ _ _ _ _ _ _
             refine Qcy ?_
             refine Zw 384 (¬ (c363=true∧nk=3∧ns=kBr++s∧nl.length=1)) ?_ _ _ U ?_
             ·skip
              refine Qbx ?_;intro c365 h365
              try replace h365:=Ym h365 h363
              refine Qb ?_
              obtain ⟨rfl,g365⟩|⟨rfl,g365⟩:=Za h365
              ·skip
               refine Qba ?_
               refine QeW ?_
               refine Qax ?_;intro c369 h369
               refine Qv ?_
               obtain ⟨rfl,g369⟩|⟨rfl,g369⟩:=Za h369
               ·skip
                refine Qba ?_
                refine QeW ?_
                refine QA ?_
                refine Zo 376 U U U U U (op_sadd U U U by17 ?_)
                refine QeS ?_;intro c377 h377
                refine Qv ?_
                obtain ⟨rfl,g377⟩|⟨rfl,g377⟩:=Za h377
                ·skip
                 refine Qba ?_
                 refine QeW ?_
                 refine QbC ?_;intro n382
                 refine Qax ?_;intro c383 h383
                 refine Qm ?_
                 refine Wa U ?_ by6 by4
                 clear HX HF hrz;first|(simp_all;done)|grind
                skip
                refine QaX ?_
                refine Wa U ?_ by6 by4
                clear HX HF hrz;first|(simp_all;done)|grind
               skip
               refine Qx ?_
               refine QbH ?_
               refine QaX ?_
               refine Wa U ?_ by6 by4
               clear HX HF hrz;first|(simp_all;done)|grind
              skip
              refine Qb1 ?_
              refine Qx ?_
              refine QbH ?_
              refine QaX ?_
              refine Wa U ?_ by6 by4
              clear HX HF hrz;first|(simp_all;done)|grind
             intro c384 h384
             refine Qc ?_
             obtain ⟨rfl,g384⟩|⟨rfl,g384⟩:=Za h384
             ·refine Qp ?_
              obtain ⟨u,l,d,hu,HP,hr1,hr2⟩:=HF (Classical.not_not.1 g384)
              obtain rfl:nl=[u]:=hu
              have hcu:=Ty.cellss_get (ts:=[u]) (i:=0) (t:=u) rfl
              have hll:=Ty.cellss_len l
              unfold PartsR at HP
              simp only [En.cells] at HP
              clear HX hrz HF
              obtain ⟨uk,us,un,ul⟩:=u
              refine Q6 ?_
              refine QbP ?_
              refine Qct ?_
              refine Q3 ?_
              refine QbR ?_
              refine Zq 392 U U (Xl (i:=2) U ta_22 U U U ⟨U,U⟩) ?_
              refine QgG ?_
              refine Qb5 ?_
              refine Zq 395 U U (Zd (xs:=[.tmp 388,.tmp 390,.tmp 394]) U U (HP) by2 ⟨U,U⟩) ?_
              refine QF ?_
              refine Qb7 ?_
              refine Qb7 ?_
              refine Qdz ?_
              show AGo _ _ _ _ _ _ _
              refine Qcy ?_
              refine Zw 411 (¬ (d=true∧0≤m∧m<l.length)) ?_ _ _ U ?_
              ·skip
               refine Qbx ?_;intro c399 h399
               try replace h399:=Ym h399 h397
               refine Qb ?_
               obtain ⟨rfl,g399⟩|⟨rfl,g399⟩:=Za h399
               ·skip
                refine QA ?_
                refine Qbn ?_;intro c403 h403
                refine Qv ?_
                obtain ⟨rfl,g403⟩|⟨rfl,g403⟩:=Za h403
                ·skip
                 refine Qdu ?_
                 refine QbC ?_;intro n409
                 refine Qd9 ?_;intro c410 h410
                 refine Qm ?_
                 refine Wa U ?_ by6 by4
                 clear HP hr1 hr2;first|(simp_all;done)|(simp_all;omega)|grind
                skip
                refine QaH ?_
                refine Wa U ?_ by6 by4
                clear HP hr1 hr2;first|(simp_all;done)|(simp_all;omega)|grind
               skip
               refine Qb1 ?_
               refine QaH ?_
               refine Wa U ?_ by6 by4
               clear HP hr1 hr2;first|(simp_all;done)|(simp_all;omega)|grind
              intro c411 h411
              refine Qc ?_
              obtain ⟨rfl,g411⟩|⟨rfl,g411⟩:=Za h411
              ·refine Qp ?_
               have q:=Classical.not_not.1 g411
               obtain ⟨⟨yk,ys,yn,yl⟩,hy,rfl⟩:=hr2 q
               obtain ⟨_,q0,_⟩:=q
               refine Qh ?_
               refine Qd ?_
               refine QgH ?_
               refine Q7 ?_
               refine Qaa ?_
               exact Zy (i:=1) U U U U Zx U by1 (Xp _) ⟨U,U⟩
              refine Qcj ?_
              obtain rfl:=hr1 g411
              exact Zy (i:=1) U U U U Zx U by1 (Xp _) ⟨U,U⟩
             refine Qcj ?_
             obtain rfl:=hrz g384
             exact Zy (i:=1) U U U U Zx U by1 (Xp _) ⟨U,U⟩
            refine QM ?_
            obtain ⟨l,c324,w,HP,HO,hr⟩:=H.h10 g314
            clear H HK
            unfold PartsR at HP
            unfold AreC wcC at HO
            simp only [En.cells,List.cons_append,List.nil_append] at HP HO
            have HN:=rcon_c (kBr++s) [⟨tk,tn,tm,tl⟩]
            generalize (rightC ⟨da,cl,ins⟩ vs ⟨tk,tn,tm,tl⟩=true)=R at *
            refine Qi ?_
            refine Qc9 ?_
            refine Qdb ?_
            refine Zb 322 U U U (Zd (xs:=[.tmp 317,.tmp 319,.tmp 321]) U U (HP) by2 ?_)
            refine Qa0 ?_
            refine Q1 ?_
            refine Zw 344 (¬ (c324=true∧R∧w=true)) ?_ _ _ U ?_
            ·skip
             refine Qbx ?_;intro c326 h326
             try replace h326:=Ym h326 h324
             refine Qb ?_
             obtain ⟨rfl,g326⟩|⟨rfl,g326⟩:=Za h326
             ·skip
              refine QaI ?_
              refine Qdj ?_
              refine QA ?_
              refine Qci ?_
              refine Zo 334 U U U U U (Zg (xs:=[.tmp 329,.tmp 331,.tmp 333]) U U (HG) by2 ?_);intro c334 h334
              refine Qal ?_;intro c335 h335
              try replace h335:=Ym h335 h334
              refine Qv ?_
              obtain ⟨rfl,g335⟩|⟨rfl,g335⟩:=Za h335
              ·skip
               refine QfV ?_
               refine Qdu ?_
               refine Zo 342 U U U U U (Zg (xs:=[.tmp 338,.tmp 340,.tmp 341,.const (.slice none 0 0),.const (.slice none 0 0)]) U U ((HO by15)) by2 ?_);intro c342 h342
               refine Qal ?_;intro c343 h343
               try replace h343:=Ym h343 h342
               refine Qm ?_
               refine Wa U ?_ by6 by4
               clear HG HN HP HO hr;first|(simp_all;done)|grind
              skip
              refine Qcz ?_
              refine Wa U ?_ by6 by4
              clear HG HN HP HO hr;first|(simp_all;done)|grind
             skip
             refine Qx ?_
             refine Qx ?_
             refine Qv ?_
             refine Qcz ?_
             refine Wa U ?_ by6 by4
             clear HG HN HP HO hr;first|(simp_all;done)|grind
            intro c344 h344
            refine Qc ?_
            obtain ⟨rfl,g344⟩|⟨rfl,g344⟩:=Za h344
            ·refine Qp ?_
             obtain rfl:=hr.1 (Classical.not_not.1 g344)
             refine Qi ?_
             refine Qd ?_
             refine QfP ?_
             refine Qdb ?_
             refine Zb 351 U U U (Zf (xs:=[.tmp 350]) Xj U U U U U U (Wc U) (Zb 352 U U U (Zd (xs:=[.tmp 348,.tmp 351]) U U (HN) by2 ?_)))
             refine Qaa ?_
             exact Zy (i:=1) U U U U Zx U by1 (Xp _) ⟨U,U⟩
            refine Qcj ?_
            obtain rfl:=hr.2 g344
            exact Zy (i:=1) U U U U Zx U by1 (Xp _) ⟨U,U⟩
           refine Q4 ?_
           refine QaJ ?_
           refine Zw 273 (m<1∨pm.length<m) ?_ _ _ U ?_
           ·skip
            refine Qd ?_
            refine Qg ?_;intro c265 h265
            refine Qb ?_
            obtain ⟨rfl,g265⟩|⟨rfl,g265⟩:=Za h265
            ·skip
             refine QA ?_
             refine QA ?_
             refine QfN ?_;intro n271
             refine Qcp ?_;intro c272 h272
             refine Qm ?_
             refine Wa U ?_ by6 by4
             clear H HG HK;first|(simp_all;done)|(simp_all;omega)|grind
            skip
            refine Qcz ?_
            refine Wa U ?_ by6 by4
            clear H HG HK;first|(simp_all;done)|(simp_all;omega)|grind
           intro c273 h273
           refine Qc ?_
           obtain ⟨rfl,g273⟩|⟨rfl,g273⟩:=Za h273
           ·refine Qp ?_
            obtain ⟨q,_⟩|⟨qs,qo,qn,qvs,qps,⟨qk,qss,qm,ql⟩,A,⟨nk,ns,nn,nl⟩,⟨yk,ys,yn,yl⟩,w,_,hq,HA,HW,HU,hr⟩:=H.h9 g262
            ·exact absurd q g273
            clear H HG HK
            unfold AreC wcC at HU
            simp only [En.cells,List.cons_append,List.nil_append] at HU
            have hcq:=Pm.cellss_get hq
            have hlv:=Ya qvs
            refine Qi ?_
            refine Qd ?_
            refine Qd ?_
            refine Qay ?_
            refine QgE ?_
            refine QaR ?_
            refine Zb 282 U U U (Zt (cs':=[_,_,_,_,_,_]) U ta_185 U U U (Zb 19 U U U (Yb (cs':=[_,_,_,_,_,_]) U tz_185 U U ?_)));intro b19
            refine Zr U U (Zp (cs':=[_,_,_,_,_,_]) (i:=0) U ts_185 U U U U U (Wc U) U ?_)
            refine Qdr ?_
            refine c_boold 303 (¬ (qvs.length=ts.length∧w=true)) Yx U ?_ _ _ U ?_
            ·skip
             refine Qbv ?_
             refine QfL ?_
             refine Q3 ?_
             refine Qfy ?_
             refine Yj 289 U U (fun _ q=>op_neq U U U q) ?_;intro c289 h289
             refine QF ?_
             obtain ⟨rfl,g289⟩|⟨rfl,g289⟩:=Za h289
             ·skip
              refine Qha ?_
              refine Qap ?_
              refine QdX ?_
              refine Qg4 ?_
              refine Ye 296 U U U U (Zd (xs:=[.tmp 295]) U U (HA) by2 ⟨U,U⟩) ?_
              refine Qdx ?_
              refine Qap ?_
              refine Yk 301 U U U U (fun _ q=>Zg (xs:=[.tmp 291,.tmp 293,.tmp 296,.tmp 298,.tmp 300]) U U (((HU by17).2)) by2 q) ?_;intro c301 h301
              refine Yk 302 U U U U (fun _ q=>Yz U U q) ?_;intro c302 h302
              try replace h302:=Ym h302 h301
              refine QH ?_
              show BoolQ _ _ _ _ _ _
              refine Wa U ?_ by6 by4
              clear HU HA HW hr;first|(simp_all;done)|(simp_all;omega)|grind
             skip
             refine Qaf ?_
             refine Qbh ?_
             refine QH ?_
             show BoolQ _ _ _ _ _ _
             refine Wa U ?_ by6 by4
             clear HU HA HW hr;first|(simp_all;done)|(simp_all;omega)|grind
            intro c303 h303
            refine Qc ?_
            obtain ⟨rfl,g303⟩|⟨rfl,g303⟩:=Za h303
            ·refine Qp ?_
             have q:=Classical.not_not.1 g303
             replace HU:=(HU q.1).1
             obtain rfl:=hr.1 q
             refine Yh [0,1,2,3,4,5,6,7,8,9] [8] [[],[0],[],[2],[],[4],[4,5],[0,1,2,3,4,5,6],[0,1,2,3,4,5,6,7],[0,1,2,3,4,5,6,7,8]] Yx U ?_
             refine Qa7 ?_
             refine QaL ?_
             refine QW ?_
             refine QdP ?_
             refine Zi 311 (none) (i:=6) U U U U U (Zd (xs:=[.tmp 310]) U U (HW) by2 ⟨U,U⟩) ?_
             refine Zi 312 (none) (i:=7) U U U U U (Zd (xs:=[.tmp 306,.tmp 308,.tmp 311]) U U (HU) by2 ⟨U,U⟩) ?_
             refine Qd3 ?_
             refine QZ ?_
             show AGo _ _ _ _ _ _ _
             refine QI ?_
             exact Zy (i:=2) U U U U Zx U by1 (Xp _) ⟨U,U⟩
            refine Qq ?_
            refine Qbp ?_
            refine QcD ?_
            obtain rfl:=hr.2 g303
            exact Zy (i:=2) U U U U Zx U by1 (Xp _) ⟨U,U⟩
           refine Qcj ?_
           obtain ⟨_,rfl⟩|⟨_,_,_,_,_,_,_,_,_,_,q,_⟩:=H.h9 g262
           ·exact Zy (i:=1) U U U U Zx U by1 (Xp _) ⟨U,U⟩
           exact absurd g273 q
          refine QM ?_
          have HL:=H.h8 g255 (by rw [g255] at hn;have:kidsC 8=1:=rfl;omega)
          clear H HG HK
          unfold wcC at HL
          simp only [En.cells,List.cons_append,List.nil_append] at HL
          obtain ⟨⟨rk,rn,rm,rl⟩,c260⟩:=r
          refine Qi ?_
          refine QeX ?_
          refine QbU ?_
          refine Zb 258 U U U (Zd (xs:=[.tmp 256,.tmp 257]) U U (HL) by2 ?_)
          refine QbF ?_
          refine Qaa ?_
          exact Zy (i:=1) U U U U Zx U by1 (Xp _) ⟨U,U⟩
         refine QM ?_
         have HL:=H.h7 g248 (by rw [g248] at hn;have:kidsC 7=1:=rfl;omega)
         clear H HG HK
         unfold wcC at HL
         simp only [En.cells,List.cons_append,List.nil_append] at HL
         obtain ⟨⟨rk,rn,rm,rl⟩,c253⟩:=r
         refine Qi ?_
         refine QeX ?_
         refine QbU ?_
         refine Zb 251 U U U (Zd (xs:=[.tmp 249,.tmp 250]) U U (HL) by2 ?_)
         refine QbF ?_
         refine Qaa ?_
         exact Zy (i:=1) U U U U Zx U by1 (Xp _) ⟨U,U⟩
        refine QM ?_
        obtain ⟨x,rfl⟩:∃ x,ks=[x]:=List.length_eq_one_iff.1 (by rw [g213] at hn;have:kidsC 6=1:=rfl;omega)
        obtain ⟨N,c229,HX,hr⟩:=H.h6 g213 x rfl
        clear H HK
        have HM:=rAnd1_c (.mk da cl ins) (Pm.cellss pm) sc s ⟨tk,tn,tm,tl⟩ vs hsl hvl
        have HU:=rFun_c ⟨tk,tn,tm,tl⟩ N
        unfold RT at HX
        unfold wcC at HX HM
        simp only [En.cells,List.cons_append,List.nil_append] at HX HM
        have hcx:=Co.cellss_get (ts:=[x]) (i:=0) (t:=x) rfl
        obtain ⟨xk,xs,xn,⟨xtk,xts,xtn,xtl⟩,xus,xks,xal,xbs⟩:=x
        obtain ⟨nk,ns,nn,nl⟩:=N
        generalize (rightC ⟨da,cl,ins⟩ vs ⟨tk,tn,tm,tl⟩=true)=R at *
        refine QgI ?_
        refine Qd4 ?_
        refine QaL ?_
        refine Qcm ?_
        refine QbT ?_
        refine Zi 220 (none) (i:=5) U U U U U (Zm (ns:=[0,2]) (xs:=[.tmp 217,.tmp 219]) U tz_46 U tfl_46 U U U U ⟨U,U⟩) ?_
        refine Zi 221 (none) (i:=6) U U U U U (Zf (xs:=[.tmp 220]) el_27 U U U U U U (Wc U) ⟨U,U⟩) ?_
        refine Zi 222 (none) (i:=7) U U U U U (Zd (xs:=[.tmp 215,.tmp 221,.const (.slice none 0 0)]) U U (HM) by2 ⟨U,U⟩) ?_
        refine Qda ?_
        refine Zi 227 (none) (i:=12) U U U U U (Zd (xs:=[.tmp 222,.tmp 226]) U U (HX) by2 ⟨U,U⟩) ?_
        refine Qb4 ?_
        refine Xa (i:=16) U U U (Yb (cs':=[_,_,_,_]) U tz_24 U U (fun b17=>⟨_,U,?_⟩))
        refine Qd3 ?_
        refine QZ ?_
        show AGo _ _ _ _ _ _ _
        refine Qcy ?_
        refine Zw 241 (¬ (c229=true∧R)) ?_ _ _ U ?_
        ·skip
         refine Qbx ?_;intro c231 h231
         try replace h231:=Ym h231 h229
         refine Qb ?_
         obtain ⟨rfl,g231⟩|⟨rfl,g231⟩:=Za h231
         ·skip
          refine QaI ?_
          refine Qdj ?_
          refine QA ?_
          refine Qci ?_
          refine Zo 239 U U U U U (Zg (xs:=[.tmp 234,.tmp 236,.tmp 238]) U U (HG) by2 ?_);intro c239 h239
          refine Qal ?_;intro c240 h240
          try replace h240:=Ym h240 h239
          refine Qm ?_
          refine Wa U ?_ by6 by4
          clear HG HM HX HU hr;first|(simp_all;done)|grind
         skip
         refine Qx ?_
         refine QaX ?_
         refine Wa U ?_ by6 by4
         clear HG HM HX HU hr;first|(simp_all;done)|grind
        intro c241 h241
        refine Qc ?_
        obtain ⟨rfl,g241⟩|⟨rfl,g241⟩:=Za h241
        ·refine Qp ?_
         obtain rfl:=hr.1 (Classical.not_not.1 g241)
         refine Qi ?_
         refine Qdb ?_
         refine Qcq ?_
         refine Zb 246 U U U (Zd (xs:=[.tmp 244,.tmp 245]) U U (HU) by2 ?_)
         refine Qaa ?_
         exact Zy (i:=1) U U U U Zx U by1 (Xp _) ⟨U,U⟩
        refine Qcj ?_
        obtain rfl:=hr.2 g241
        exact Zy (i:=1) U U U U Zx U by1 (Xp _) ⟨U,U⟩
       refine QM ?_
       obtain ⟨f,x,rfl⟩:∃ f x,ks=[f,x]:=len_two (by rw [g168] at hn;have:kidsC 5=2:=rfl;omega)
       obtain ⟨N,Y,c177,c186,a,b,Hf,Hx,hab,hr⟩:=H.h5 g168 f x rfl
       clear H HG HK
       unfold RT wcC at Hf Hx
       simp only [En.cells,List.cons_append,List.nil_append] at Hf Hx
       have hcf:=Co.cellss_get (ts:=[f,x]) (i:=0) (t:=f) rfl
       have hcx:=Co.cellss_get (ts:=[f,x]) (i:=1) (t:=x) rfl
       obtain ⟨fk,fs,fn,⟨ftk,fts,ftn,ftl⟩,fus,fks,fal,fbs⟩:=f
       obtain ⟨xk,xs,xn,⟨xtk,xts,xtn,xtl⟩,xus,xks,xal,xbs⟩:=x
       have HB:=IsFun_c N
       have HS:=SameType_c a Y
       generalize (a=Y)=sq at *
       generalize N.isFun=Q at *
       obtain ⟨nk,ns,nn,nl⟩:=N
       obtain ⟨yk,ys,yn,yl⟩:=Y
       replace hab:Q→nl=[a,b]:=hab
       have hc0:Q→(Ty.cellss nl)[0]?=some a.cells:=fun q=>by rw [hab q];rfl
       have hc1:Q→(Ty.cellss nl)[1]?=some b.cells:=fun q=>by rw [hab q];rfl
       obtain ⟨ak,as',an,akl⟩:=a
       obtain ⟨bk,bs',bn,bl⟩:=b
       refine QdS ?_
       refine Qd4 ?_
       refine QaL ?_
       refine QgJ ?_
       refine Qd8 ?_
       refine Zi 175 (none) (i:=5) U U U U U (Zd (xs:=[.tmp 170,.tmp 174]) U U (Hf) by2 ⟨U,U⟩) ?_
       refine Qb4 ?_
       refine Xa (i:=9) U U U (Yb (cs':=[_,_,_,_]) U tz_24 U U (fun b13=>⟨_,U,?_⟩))
       refine Qd3 ?_
       refine QZ ?_
       show AGo _ _ _ _ _ _ _
       refine Qbd ?_
       refine QdS ?_
       refine Qd4 ?_
       refine Qda ?_
       refine Zi 184 (none) (i:=5) U U U U U (Zd (xs:=[.tmp 179,.tmp 183]) U U (Hx) by2 ⟨U,U⟩) ?_
       refine Qb4 ?_
       refine Xa (i:=9) U U U (Yb (cs':=[_,_,_,_]) U tz_24 U U (fun b15=>⟨_,U,?_⟩))
       refine Qhb ?_
       refine QZ ?_
       show AGo _ _ _ _ _ _ _
       refine Qcy ?_
       refine c_boold 206 (¬ (c177=true∧c186=true∧Q∧sq)) Yx U ?_ _ _ U ?_
       ·skip
        refine QF ?_
        refine Yj 188 U U (fun _ q=>Yz U U q) ?_;intro c188 h188
        try replace h188:=Ym h188 h177
        refine QF ?_
        obtain ⟨rfl,g188⟩|⟨rfl,g188⟩:=Za h188
        ·skip
         refine QaT ?_
         refine Yk 191 U U U U (fun _ q=>Yz U U q) ?_;intro c191 h191
         try replace h191:=Ym h191 h186
         refine Qa1 ?_
         obtain ⟨rfl,g191⟩|⟨rfl,g191⟩:=Za h191
         ·skip
          refine Ye 194 U U U U (Zs (cs':=[_,_,_,_]) (i:=2) U Zx U U U U ⟨U,U⟩) ?_
          refine Yk 195 U U U U (fun _ q=>Zg (xs:=[.tmp 194]) U U (HB) by2 q) ?_;intro c195 h195
          refine Yk 196 U U U U (fun _ q=>Yz U U q) ?_;intro c196 h196
          try replace h196:=Ym h196 h195
          refine Qa1 ?_
          obtain ⟨rfl,g196⟩|⟨rfl,g196⟩:=Za h196
          ·skip
           refine QdX ?_
           refine Ye 200 U U U U (Xl (i:=2) U ta_22 U U U ⟨U,U⟩) ?_
           refine Ye 201 U U U U (Zh U te_22 U (.seq _ _) U U (hc0 by15) ⟨U,U⟩) ?_
           refine QeT ?_
           refine Ye 203 U U U U (Zs (cs':=[_,_,_,_]) (i:=3) U Zx U U U U ⟨U,U⟩) ?_
           refine Yk 204 U U U U (fun _ q=>Zg (xs:=[.tmp 202,.tmp 203]) U U (HS) by2 q) ?_;intro c204 h204
           refine Yk 205 U U U U (fun _ q=>Yz U U q) ?_;intro c205 h205
           try replace h205:=Ym h205 h204
           refine QH ?_
           show BoolQ _ _ _ _ _ _
           refine Wa U ?_ by6 by4
           clear HB HS Hf Hx hc0 hc1 hab hr;first|(simp_all;done)|grind
          skip
          refine Qbh ?_
          refine Qb3 ?_
          refine QH ?_
          show BoolQ _ _ _ _ _ _
          refine Wa U ?_ by6 by4
          clear HB HS Hf Hx hc0 hc1 hab hr;first|(simp_all;done)|grind
         skip
         refine Qb3 ?_
         refine Qa1 ?_
         refine Qbh ?_
         refine Qb3 ?_
         refine QH ?_
         show BoolQ _ _ _ _ _ _
         refine Wa U ?_ by6 by4
         clear HB HS Hf Hx hc0 hc1 hab hr;first|(simp_all;done)|grind
        skip
        refine Qca ?_
        refine Qa1 ?_
        refine Qb3 ?_
        refine Qa1 ?_
        refine Qbh ?_
        refine Qb3 ?_
        refine QH ?_
        show BoolQ _ _ _ _ _ _
        refine Wa U ?_ by6 by4
        clear HB HS Hf Hx hc0 hc1 hab hr;first|(simp_all;done)|grind
       intro c206 h206
       refine Qc ?_
       obtain ⟨rfl,g206⟩|⟨rfl,g206⟩:=Za h206
       ·refine Qp ?_
        have q:=Classical.not_not.1 g206
        obtain rfl:=hr.1 q
        refine Qi ?_
        refine Qb2 ?_
        refine Zb 210 U U U (Zh U te_22 U (.seq _ _) U U (hc1 q.2.2.1) ?_)
        refine Q7 ?_
        refine Qaa ?_
        exact Zy (i:=1) U U U U Zx U by1 (Xp _) ⟨U,U⟩
       refine Qcj ?_
       obtain rfl:=hr.2 g206
       exact Zy (i:=1) U U U U Zx U by1 (Xp _) ⟨U,U⟩
      refine QM ?_
      obtain ⟨I,J,ds,dps,dcs,ddv,dp,cs,cts,cp,w,HC,hIJ,HF,hr⟩:=H.h4 g104
      clear H HG HK
      unfold AreC wcC at HF
      simp only [En.cells,En.da,List.cons_append,List.nil_append] at HC HF
      have HN:=rcon_c ds ts
      have hlp:=Ya dps
      refine Qi ?_
      refine Qc9 ?_
      refine Zb 110 U U U (Zd (xs:=[.tmp 107,.tmp 109]) U U (HC) by2 ?_)
      refine Qa0 ?_
      refine Q1 ?_
      refine c_boold 155 (¬ (¬ I<0∧dps.length=ts.length∧w=true)) Yx U ?_ _ _ U ?_
      ·skip
       refine QF ?_
       refine Yj 114 U U (fun _ q=>op_lss U U U q) ?_;intro c114 h114
       refine QF ?_
       obtain ⟨rfl,g114⟩|⟨rfl,g114⟩:=Za h114
       ·skip
        refine QcI ?_
        refine QbN ?_
        refine QfW ?_
        refine Qap ?_
        refine QgP ?_
        refine Qap ?_
        refine Qex ?_
        refine Yk 127 U U U U (fun _ q=>op_neq U U U q) ?_;intro c127 h127
        refine Qa1 ?_
        obtain ⟨rfl,g127⟩|⟨rfl,g127⟩:=Za h127
        ·skip
         refine Qha ?_
         refine Qap ?_
         refine QcI ?_
         refine QbN ?_
         refine QfW ?_
         refine QbN ?_
         refine Ye 141 U U U U (Zh (i:=J.toNat) U te_112 U (.seq _ _) U by11 (by first|exact Da.cellss_get (HF (by first|assumption|omega|grind)).1|exact Cn.cellss_get (HF (by first|assumption|omega|grind)).2.1) ⟨U,U⟩) ?_
         refine Qap ?_
         refine QcI ?_
         refine QbN ?_
         refine QfW ?_
         refine Qap ?_
         refine Qap ?_
         refine Yk 153 U U U U (fun _ q=>Zg (xs:=[.tmp 130,.tmp 132,.tmp 143,.tmp 150,.tmp 152]) U U (((HF (by first|assumption|omega|grind)).2.2 by17)) by2 q) ?_;intro c153 h153
         refine Yk 154 U U U U (fun _ q=>Yz U U q) ?_;intro c154 h154
         try replace h154:=Ym h154 h153
         refine QH ?_
         show BoolQ _ _ _ _ _ _
         refine Wa U ?_ by6 by4
         clear HF HN HC;first|(simp_all;done)|(simp_all;omega)|grind
        skip
        refine Qaf ?_
        refine Qaf ?_
        refine Qaf ?_
        refine QcH ?_
        refine QH ?_
        show BoolQ _ _ _ _ _ _
        refine Wa U ?_ by6 by4
        clear HF HN HC;first|(simp_all;done)|(simp_all;omega)|grind
       skip
       refine Qaf ?_
       refine Qbh ?_
       refine Qa1 ?_
       refine Qaf ?_
       refine Qaf ?_
       refine Qaf ?_
       refine QcH ?_
       refine QH ?_
       show BoolQ _ _ _ _ _ _
       refine Wa U ?_ by6 by4
       clear HF HN HC;first|(simp_all;done)|(simp_all;omega)|grind
      intro c155 h155
      refine Qc ?_
      obtain ⟨rfl,g155⟩|⟨rfl,g155⟩:=Za h155
      ·refine Qp ?_
       obtain ⟨q1,q2⟩:=Classical.not_not.1 g155
       obtain rfl:=hr.1 ⟨q1,q2⟩
       refine Yh [0,1,2,3,4,5,6,7,8,9,10,11] [10] [[],[0],[0,1],[],[0,1,2,3],[0,1,2,3,4],[0,1,2,3,4,5],[],[7],[0,1,2,3,4,5,6,7,8],[0,1,2,3,4,5,6,7,8,9],[0,1,2,3,4,5,6,7,8,9,10]] Yx U ?_
       refine Qcm ?_
       refine QaL ?_
       refine Qw ?_
       refine Zi 161 (none) (i:=4) U U U U U (Zh (i:=I.toNat) U te_37 U (.seq _ _) U by11 (Da.cellss_get (HF q1).1) ⟨U,U⟩) ?_
       refine QaL ?_
       refine QaL ?_
       refine Zi 166 (none) (i:=9) U U U U U (Zd (xs:=[.tmp 163,.tmp 165]) U U (HN) by2 ⟨U,U⟩) ?_
       refine QcL ?_
       refine QZ ?_
       show AGo _ _ _ _ _ _ _
       refine QI ?_
       exact Zy (i:=1) U U U U Zx U by1 (Xp _) ⟨U,U⟩
      refine Qcj ?_
      obtain rfl:=hr.2 g155
      exact Zy (i:=1) U U U U Zx U by1 (Xp _) ⟨U,U⟩
     refine QM ?_
     obtain rfl:=H.h3 g101
     have HN:=rcon_c kStrT []
     refine Qi ?_
     refine Zb 102 U U U (Zd (xs:=[.const (.string ⟨#[83,116,114,105,110,103]⟩),.const (.slice none 0 0)]) U U (HN) by2 ?_)
     refine Qaa ?_
     exact Zy (i:=1) U U U U Zx U by1 (Xp _) ⟨U,U⟩
    refine QM ?_
    obtain rfl:=H.h2 g98
    have HN:=rcon_c kIntT []
    refine Qi ?_
    refine Zb 99 U U U (Zd (xs:=[.const (.string ⟨#[73,110,116]⟩),.const (.slice none 0 0)]) U U (HN) by2 ?_)
    refine Qaa ?_
    exact Zy (i:=1) U U U U Zx U by1 (Xp _) ⟨U,U⟩
   refine QM ?_
   refine Ql ?_
   refine Qd ?_
   refine QcK ?_;intro n65
   refine Qay ?_
   refine Qab ?_
   obtain ⟨hr,HP⟩:=H.h1 g62
   clear H HG HK
   replace HP:=fun b (hb:findL s sc=some b) (hl:b.vs.length=ts.length)=>rPutW_c b.vs by17 ts b.t.size b.t (Nat.le_refl _) (HP b hb)
   unfold varC at hr
   obtain ⟨o,ho⟩:∃ o,findL s sc=o:=⟨_,rfl⟩
   rw [ho] at hr HP
   apply Zu (rg [(0,2),(5,1),(7,17),(25,71),(97,321)]) (σ:=Nat) (fun zz=>match zz with|i=>[(9,.val (.int .i64 ((i:Int) - 1)))]) (fun zz=>match zz with|i=>i≤sc.length∧findL s (sc.take i)=o) (fun zz=>match zz with|i=>i) (sc.length)
   ·repeat' (first|exact Wf|apply Wd rfl|apply We rfl)
   ·exact ⟨Nat.le_refl _,by rw [List.take_length];exact ho⟩
   ·exact Xy U (Le.ieq by17) by5
   rintro i hI
   try dsimp only [List.cons_append,List.nil_append] at hI ⊢
   obtain ⟨hi,hf⟩:=hI
   refine QS ?_
   refine QbS ?_;intro c68 h68
   refine Qa ?_
   obtain ⟨rfl,g68⟩|⟨rfl,g68⟩:=Za h68
   ·refine Qag ?_
    obtain rfl:i=0:=by omega
    rw [List.take_zero,findL] at hf
    subst hf
    replace hr:(tyZ,false)=r:=hr
    refine Qi ?_
    refine Q9 ?_
    refine Qaa ?_
    subst hr
    exact Zy (i:=1) U U U U Zx U by1 (Xp _) ⟨U,U⟩
   refine Qk ?_
   obtain ⟨i,rfl⟩:∃ j,i=j+1:=⟨i - 1,by omega⟩
   rw [show (((i+1:Nat):Int) - 1)=(i:Int) by omega]
   obtain ⟨⟨qb,qvs,⟨qwk,qws,qwn,qwl⟩,⟨qk,qs,qn,⟨qtk,qts,qtn,qtl⟩,qus,qks,qal,qbs⟩⟩,hxq⟩:=Zj (l:=sc) (i:=i) by17
   have hcq:=Cb.cellss_get hxq
   rw [Yd hxq,findL_snoc] at hf
   replace hf:(if sameB qb s=true then some (Cb.mk qb qvs ⟨qwk,qws,qwn,qwl⟩ ⟨qk,qs,qn,⟨qtk,qts,qtn,qtl⟩,qus,qks,qal,qbs⟩) else findL s (sc.take i))=o:=hf
   have hlv:=Ya qvs
   refine Qa5 ?_
   refine Qey ?_
   refine QdJ ?_
   refine QdN ?_;intro b10
   refine Qdk ?_
   refine Qbw ?_
   refine Qd ?_
   refine Qas ?_;intro c80 h80
   refine Qa ?_
   obtain ⟨rfl,g80⟩|⟨rfl,g80⟩:=Za h80
   ·refine Qbr ?_
    refine Qh ?_
    refine Qay ?_
    refine QbE ?_
    rw [if_neg (fun q=>g80 (Yt.1 q))] at hf
    exact ⟨i,⟨by omega,hf⟩,by show i<i+1;omega,by5,by4⟩
   refine Q4 ?_
   refine QaJ ?_
   rw [if_pos (Yt.2 g80)] at hf
   subst hf
   replace hr:(if qvs.length=ts.length then ((Ty.mk qwk qws qwn qwl).turn (putO qvs ts),true) else (tyZ,false))=r:=hr
   refine Qi ?_
   refine Qn ?_
   refine QbB ?_;intro n83
   refine Qd ?_
   refine QY ?_;intro n86
   refine QP ?_;intro c87 h87
   refine Qa ?_
   obtain ⟨rfl,g87⟩|⟨rfl,g87⟩:=Za h87
   ·refine Qp ?_
    have hvl:qvs.length=ts.length:=by omega
    rw [if_pos hvl] at hr
    replace HP:PCall Tryz.prog 49 [.seq 1 (strs qvs),.seq 4 (Ty.cellss ts),.agg (Ty.mk qwk qws qwn qwl).cells] (.agg ((Ty.mk qwk qws qwn qwl).turn (putO qvs ts)).cells):=HP _ rfl hvl
    generalize (Ty.mk qwk qws qwn qwl).turn (putO qvs ts)=y at *
    obtain ⟨yk,ys,yn,yl⟩:=y
    refine Qi ?_
    refine Qn ?_
    refine Qd ?_
    refine Qt ?_
    refine Q9 ?_
    refine Zb 95 U U U (Zd (xs:=[.tmp 90,.tmp 92,.tmp 94]) U U (HP) by2 ?_)
    refine QcD ?_
    subst hr
    exact Zy (i:=2) U U U U Zx U by1 (Xp _) ⟨U,U⟩
   refine Qq ?_
   refine Qbp ?_
   refine QcD ?_
   rw [if_neg by17] at hr
   subst hr
   exact Zy (i:=2) U U U U Zx U by1 (Xp _) ⟨U,U⟩
  refine Qcj ?_
  obtain rfl:=H.hk (by rw [hn];exact g57)
  exact Zy (i:=1) U U U U Zx U by1 (Xp _) ⟨U,U⟩
 refine Qk ?_
 obtain ⟨⟨qk,qs,qn,ql⟩,hxq⟩:=Zj (l:=ts) (i:=i) by8
 have hcq:=Ty.cellss_get hxq
 have hmq:=Wg hxq
 rw [all_drop hxq] at hA
 have HQ:=HR ⟨qk,qs,qn,ql⟩
 generalize rightC ⟨da,cl,ins⟩ vs ⟨qk,qs,qn,ql⟩=w at *
 refine Q6 ?_
 refine QbP ?_
 refine Qct ?_
 refine Q3 ?_
 refine QaF ?_
 refine Qg0 ?_
 refine Qb5 ?_
 refine Yj 43 U U (fun _ q=>Zg (xs:=[.tmp 35,.tmp 37,.tmp 42]) U U (HQ) by2 q) ?_;intro c43 h43
 refine Yj 44 U U (fun _ q=>Yz U U q) ?_;intro c44 h44
 try replace h44:=Ym h44 h43
 show AGo _ _ _ _ _ _ _
 refine Qc ?_
 obtain ⟨rfl,g44⟩|⟨rfl,g44⟩:=Za h44
 ·refine QL ?_
  rw [show w=true by simpa using g44,Bool.true_and] at hA
  exact ⟨i+1,⟨by show i+1≤ts.length;omega,hA⟩,by show ts.length - (i+1)<ts.length - i;omega,by5,by4⟩
 refine Qcj ?_
 rw [show w=false by simpa using g44,Bool.false_and] at hA
 obtain rfl:=h0 hA.symm
 exact Zy (i:=1) U U U U Zx U by1 (Xp _) ⟨U,U⟩
theorem rBind_c (v:En) (hbr:NoBr v) (pm:List Pm) (sc:List Cb) (vs:List ByteArray) (f:List Cb→List ByteArray→Co→Ty × Bool) (b:Cb) (h0:sc.length≤1000000000) (h1:vs.length≤1000000000) (h2:b.vs.length≤1000000000) (H:RTypC v pm sc (vs++b.vs) b.e (f sc (vs++b.vs) b.e)):BCall Tryz.prog 45 [.agg (wcC v (Pm.cellss pm) sc vs),.agg b.cells] (bindC f v sc vs b=true):=by
 have HW:=rAnd_c v (Pm.cellss pm) sc [] vs b.vs h0 by18 h1 h2
 rw [List.append_nil] at HW
 have HR:=rRight_c v hbr (vs++b.vs) b.t
 obtain ⟨B,hB⟩:∃ B,bindC f v sc vs b=B:=⟨_,rfl⟩
 rw [hB]
 unfold bindC at hB
 obtain ⟨⟨nk,ns,nn,nl⟩,hN,hNe⟩:=nrm_mk (f sc (vs++b.vs) b.e)
 unfold RTypC at H
 rw [hN] at H
 clear hN
 generalize f sc (vs++b.vs) b.e=fr at *
 obtain ⟨F,c46⟩:=fr
 replace hNe:c46=true→Ty.mk nk ns nn nl=F:=hNe
 replace H:PCall Tryz.prog 78 _ (.tup [.agg _,.val (.bool c46)]):=H
 have HS:=SameType_c ⟨nk,ns,nn,nl⟩ b.t
 obtain ⟨w,hw⟩:∃ w,(c46 && F.eqC b.t)=w:=⟨_,rfl⟩
 have hww:w=true↔c46=true∧Ty.mk nk ns nn nl=b.t:=by
  rw [← hw,Bool.and_eq_true,Ty.eqC_iff]
  exact ⟨fun q=>⟨q.1,(hNe q.1).trans q.2⟩,fun q=>⟨q.1,(hNe q.1).symm.trans q.2⟩⟩
 generalize (Ty.mk nk ns nn nl=b.t)=sq at *
 replace hB:((unlB b.vs && b.vs.all fun s => !hasB vs s) && (rightC v (vs++b.vs) b.t && (c46 && F.eqC b.t)))=B:=hB
 rw [hw] at hB
 clear hw hNe
 generalize rightC v (vs++b.vs) b.t=R at *
 obtain ⟨G,hG⟩:∃ G:ByteArray→Bool,(fun s => !hasB vs s)=G:=⟨_,rfl⟩
 rw [hG] at hB
 have hG1:∀ s,G s = !hasB vs s:=fun s=>by rw [← hG]
 clear hG
 unfold unlB at hB
 obtain ⟨d,hd⟩:∃ d,dupB [] b.vs=d:=⟨_,rfl⟩
 rw [hd] at hB
 obtain ⟨a,ha⟩:∃ a,b.vs.all G=a:=⟨_,rfl⟩
 rw [ha] at hB
 have HV:=fun s=>Has_c vs s
 have HX:=fun (i:Nat) s=>Has_c (b.vs.take i) s
 obtain ⟨qb,qvs,⟨qwk,qws,qwn,qwl⟩,⟨qk,qs,qn,⟨qtk,qts,qtn,qtl⟩,qus,qks,qal,qbs⟩⟩:=b
 simp only [Cb.vs,Cb.t,Cb.e] at *
 have hlv:=Ya qvs
 obtain ⟨da,cl,ins⟩:=v
 unfold wcC at *
 simp only [En.cells,List.cons_append,List.nil_append] at *
 refine Zc Tryz.func45 U (by kernel_rfl) U (Wc U) ?_
 refine Qbj ?_
 refine Qea ?_
 refine Qae ?_
 apply Zu (rg [(0,2),(4,2),(9,27)]) (σ:=Nat) (fun zz=>match zz with|i=>[(5,.val (.int .i64 i))]) (fun zz=>match zz with|i=>i≤qvs.length∧dupB (qvs.take i) (qvs.drop i)=d∧(qvs.drop i).all G=a) (fun zz=>match zz with|i=>qvs.length - i) (0)
 ·repeat' (first|exact Wf|apply Wd rfl|apply We rfl)
 ·exact ⟨Nat.zero_le _,hd,ha⟩
 ·exact by5
 rintro i hI
 try dsimp only [List.cons_append,List.nil_append] at hI ⊢
 obtain ⟨hi,hD,hA⟩:=hI
 refine Qav ?_
 refine QbB ?_;intro n12
 refine Qg ?_;intro c13 h13
 refine Qa ?_
 obtain ⟨rfl,g13⟩|⟨rfl,g13⟩:=Za h13
 ·refine Qag ?_
  rw [Wh by17] at hD hA
  rw [dupB] at hD
  rw [List.all_nil] at hA
  subst hD
  subst hA
  refine Qi ?_
  refine QeX ?_
  refine Qd ?_
  refine Zb 39 U U U (Zd (xs:=[.tmp 36,.const (.slice none 0 0),.tmp 38]) U U (HW) by2 ?_)
  refine QeC ?_;intro b6
  refine QfX ?_
  refine Qu ?_
  refine Zb 41 U U U (Zs (cs':=[_,_,_,_,_,_]) (i:=0) U ta_97 U U U U ?_)
  refine QaR ?_
  refine QbU ?_
  refine Zb 44 U U U (Zd (xs:=[.tmp 41,.tmp 43]) U U (H) by2 ?_)
  refine QdA ?_;intro b7
  refine QO ?_
  refine QG ?_
  refine Zw 4 (R=true∧w=true) ?_ _ _ U ?_
  ·skip
   refine Qai ?_
   have h48:(c46=true↔c46=true):=Iff.rfl
   obtain ⟨rfl,g48⟩|⟨rfl,g48⟩:=Za h48
   ·skip
    refine Qx ?_
    refine Qb1 ?_
    refine Qc3 ?_
    refine Wa U ?_ by6 by4
    clear HW HR H HS HV HX;first|(simp_all;done)|grind
   skip
   refine Qba ?_
   refine QeY ?_
   refine Qba ?_
   refine QdI ?_
   refine Qci ?_
   refine Zo 55 U U U U U (Zg (xs:=[.tmp 50,.tmp 52,.tmp 54]) U U (HR) by2 ?_);intro c55 h55
   refine Qv ?_
   obtain ⟨rfl,g55⟩|⟨rfl,g55⟩:=Za h55
   ·skip
    refine Qc3 ?_
    refine Wa U ?_ by6 by4
    clear HW HR H HS HV HX;first|(simp_all;done)|grind
   skip
   refine Qfw ?_
   refine Qci ?_
   refine Zo 61 U U U U U (Zg (xs:=[.tmp 58,.tmp 60]) U U (HS) by2 ?_);intro c61 h61
   refine QC ?_
   refine Wa U ?_ by6 by4
   clear HW HR H HS HV HX;first|(simp_all;done)|grind
  intro c4 h4
  refine QI ?_
  exact Ze U U (Xu _) (Xp _) ⟨⟨_,h4.trans (by rw [← hB];simp),U⟩,U⟩
 refine Qk ?_
 obtain ⟨x,hxx⟩:=Zj (l:=qvs) (i:=i) by8
 have hcx:=Xc hxx
 have hmx:=Wg hxx
 rw [Zz hxx,dupB] at hD
 rw [all_drop hxx,hG1] at hA
 have HVx:=HV x
 have HXx:=HX i x
 rw [← strs_take] at HXx
 refine c_boold 35 (x∈vs∨x∈qvs.take i) Yx U ?_ _ _ U ?_
 ·skip
  refine Q3 ?_
  refine QaF ?_
  refine Qg5 ?_
  refine QdV ?_
  refine Yj 23 U U (fun _ q=>Zg (xs:=[.tmp 17,.tmp 22]) U U (HVx) by2 q) ?_;intro c23 h23
  refine QF ?_
  obtain ⟨rfl,g23⟩|⟨rfl,g23⟩:=Za h23
  ·skip
   refine QbN ?_
   refine Ye 28 U U U U (op_cuth (k:=i) U te_44 U (.seq _ _) U by17 by17 ⟨U,U⟩) ?_
   refine QbN ?_
   refine Ye 32 U U U U (Zh U te_44 U (.seq _ _) U U (hcx) ⟨U,U⟩) ?_
   refine Qfc ?_
   refine Yk 34 U U U U (fun _ q=>Zg (xs:=[.tmp 28,.tmp 33]) U U (HXx) by2 q) ?_;intro c34 h34
   refine QH ?_
   show BoolQ _ _ _ _ _ _
   refine Wa U ?_ by6 by4
   clear HW HR H HS HV HX HVx HXx;first|(simp_all;done)|grind
  skip
  refine Qaf ?_
  refine Qca ?_
  refine QH ?_
  show BoolQ _ _ _ _ _ _
  refine Wa U ?_ by6 by4
  clear HW HR H HS HV HX HVx HXx;first|(simp_all;done)|grind
 intro c35 h35
 refine Qc ?_
 obtain ⟨rfl,g35⟩|⟨rfl,g35⟩:=Za h35
 ·refine QL ?_
  refine ⟨i+1,⟨by show i+1≤qvs.length;omega,?_,?_⟩,by show qvs.length - (i+1)<qvs.length - i;omega,by5,by4⟩
  ·rw [if_neg (fun q=>g35 (.inr (hasB_iff.1 q))),← Yd hxx] at hD
   exact hD
  have hf:hasB vs x=false:=by
   cases q:hasB vs x with
   | false=>rfl
   | true=>exact absurd (.inl (hasB_iff.1 q)) g35
  rw [hf] at hA
  exact hA
 refine QD ?_
 have hBf:B=false:=by
  rw [← hB]
  rcases g35 with q|q
  ·rw [← hA,hasB_iff.2 q];simp
  rw [← hD,if_pos (hasB_iff.2 q)];simp
 subst hBf
 exact Ze U U (Xu _) (Xp _) ⟨⟨_,iff_f by18,U⟩,U⟩
theorem rLet_c (v:En) (pm:List Pm) (sc:List Cb) (vs:List ByteArray) (k m:Int) (s:ByteArray) (t:Ty) (ts:List Ty) (x:Co) (al:List Ca) (bs:List Cb) (q:Cb→Bool) (r0:Ty × Bool) (h1:sc.length≤1000000000) (h2:bs.length≤1000000000) (h3:vs.length≤1000000000)
    (HB1:m=1→∀ b∈bs,BCall Tryz.prog 45 [.agg (wcC v (Pm.cellss pm) (sc++bs) vs),.agg b.cells] (q b=true))
    (HB2:m≠1→∀ b∈bs,BCall Tryz.prog 45 [.agg (wcC v (Pm.cellss pm) sc vs),.agg b.cells] (q b=true))
    (HX:RTypC v pm (sc++bs) vs x r0) (r:Ty × Bool)
    (hr:(if unlB (bs.map Cb.s)=true∧(bs.all fun b=>(decide (m≠1) || decide (b.e.k=6)) && q b)=true then nrm r0 else (tyZ,false))=r) :
    PCall Tryz.prog 133 [.agg (wcC v (Pm.cellss pm) sc vs),.agg (Co.mk k s m t ts [x] al bs).cells] (.tup [.agg r.1.cells,.val (.bool r.2)]):=by
 have HW:=rAnd_c v (Pm.cellss pm) sc bs vs [] h1 h2 h3 by18
 rw [List.append_nil] at HW
 obtain ⟨G,hG⟩:∃ G:Cb→Bool,(fun (b:Cb)=>(decide (m≠1) || decide (b.e.k=6)) && q b)=G:=⟨_,rfl⟩
 rw [hG] at hr
 have hG1:∀ b,G b=true↔(m≠1∨b.e.k=6)∧q b=true:=fun b=>by rw [← hG];simp
 clear hG
 unfold unlB at hr
 obtain ⟨d,hd⟩:∃ d,dupB [] (bs.map Cb.s)=d:=⟨_,rfl⟩
 rw [hd] at hr
 obtain ⟨a,ha⟩:∃ a,bs.all G=a:=⟨_,rfl⟩
 rw [ha] at hr
 obtain ⟨⟨nk,ns,nn,nl⟩,hN,hNe⟩:=nrm_mk r0
 unfold RTypC at HX
 have hn2:(nrm r0).2=r0.2:=by
  cases z:r0.2 with
  | true=>rw [nrm_t z,z]
  | false=>rw [nrm_f z]
 replace hr:(if (!d)=true∧a=true then ((⟨nk,ns,nn,nl⟩,r0.2):Ty × Bool) else (tyZ,false))=r:=by
  rw [← hr]
  by_cases z:(!d)=true∧a=true
  ·rw [if_pos z,if_pos z,← hN,← hn2]
  rw [if_neg z,if_neg z]
 rw [hN] at HX
 clear hN hNe hn2
 obtain ⟨F,c75⟩:=r0
 replace HX:PCall Tryz.prog 78 _ (.tup [.agg _,.val (.bool c75)]):=HX
 replace hr:(if (!d)=true∧a=true then ((⟨nk,ns,nn,nl⟩,c75):Ty × Bool) else (tyZ,false))=r:=hr
 have hlb:=Cb.cellss_len bs
 have hcx:=Co.cellss_get (ts:=[x]) (i:=0) (t:=x) rfl
 obtain ⟨xk,xs,xn,⟨xtk,xts,xtn,xtl⟩,xus,xks,xal,xbs⟩:=x
 obtain ⟨tk,tn,tm,tl⟩:=t
 obtain ⟨da,cl,ins⟩:=v
 unfold wcC at *
 simp only [En.cells,List.cons_append,List.nil_append] at *
 refine Zc Tryz.func133 U (by kernel_rfl) U (Wc U) ?_
 refine Qc8 ?_;intro b4
 refine Qs ?_
 refine QeX ?_
 refine Qd ?_
 refine Zb 13 U U U (Zd (xs:=[.tmp 10,.tmp 12,.const (.slice none 0 0)]) U U (HW) by2 ?_)
 refine QeC ?_;intro b6
 refine QfX ?_
 refine Qa8 ?_
 refine Qab ?_
 apply Zu (rg [(0,2),(5,1),(7,61)]) (σ:=Nat) (fun zz=>match zz with|i=>[(7,.val (.int .i64 i))]) (fun zz=>match zz with|i=>i≤bs.length∧dupB ((bs.take i).map Cb.s) ((bs.drop i).map Cb.s)=d∧(bs.drop i).all G=a) (fun zz=>match zz with|i=>bs.length - i) (0)
 ·repeat' (first|exact Wf|apply Wd rfl|apply We rfl)
 ·exact ⟨Nat.zero_le _,hd,ha⟩
 ·exact by5
 rintro i hI
 try dsimp only [List.cons_append,List.nil_append] at hI ⊢
 obtain ⟨hi,hD,hA⟩:=hI
 refine Qav ?_
 refine QcK ?_;intro n17
 refine Qg ?_;intro c18 h18
 refine Qa ?_
 obtain ⟨rfl,g18⟩|⟨rfl,g18⟩:=Za h18
 ·refine Qag ?_
  rw [Wh by17] at hD hA
  rw [List.map_nil,dupB] at hD
  rw [List.all_nil] at hA
  subst hD
  subst hA
  rw [if_pos by18] at hr
  subst hr
  refine QgT ?_
  refine Zi 68 (some 0) (i:=0) U U U U U (Zs (cs':=[_,_,_,_,_,_]) (i:=0) U ta_97 U U U U ⟨U,U⟩) ?_
  refine Qda ?_
  refine Zi 73 (none) (i:=5) U U U U U (Zd (xs:=[.tmp 68,.tmp 72]) U U (HX) by2 ⟨U,U⟩) ?_
  refine Qd7 ?_
  refine Qd7 ?_
  refine QcL ?_
  refine QZ ?_
  show AGo _ _ _ _ _ _ _
  refine QI ?_
  exact Zy (i:=1) U U U U Zx U by1 (Xp _) ⟨U,U⟩
 refine Qk ?_
 obtain ⟨⟨zb,zvs,⟨zwk,zws,zwn,zwl⟩,⟨zk,zs,zn,⟨ztk,zts,ztn,ztl⟩,zus,zks,zal,zbs⟩⟩,hxz⟩:=Zj (l:=bs) (i:=i) by8
 have hcz:=Cb.cellss_get hxz
 have hmz:=Wg hxz
 have hG1z:=hG1 (Cb.mk zb zvs ⟨zwk,zws,zwn,zwl⟩ ⟨zk,zs,zn,⟨ztk,zts,ztn,ztl⟩,zus,zks,zal,zbs⟩)
 have HB1z:=fun (h:m=1)=>HB1 h _ hmz
 have HB2z:=fun (h:m≠1)=>HB2 h _ hmz
 rw [Zz hxz,List.map_cons,dupB] at hD
 rw [all_drop hxz] at hA
 replace hG1z:G (Cb.mk zb zvs ⟨zwk,zws,zwn,zwl⟩ ⟨zk,zs,zn,⟨ztk,zts,ztn,ztl⟩,zus,zks,zal,zbs⟩)=true↔(m≠1∨zk=6)∧q (Cb.mk zb zvs ⟨zwk,zws,zwn,zwl⟩ ⟨zk,zs,zn,⟨ztk,zts,ztn,ztl⟩,zus,zks,zal,zbs⟩)=true:=hG1z
 replace hD:(if hasB ((bs.take i).map Cb.s) zb=true then true else dupB ((bs.take i).map Cb.s++[zb]) ((bs.drop (i+1)).map Cb.s))=d:=hD
 have hts:=Yd hxz
 generalize G (Cb.mk zb zvs ⟨zwk,zws,zwn,zwl⟩ ⟨zk,zs,zn,⟨ztk,zts,ztn,ztl⟩,zus,zks,zal,zbs⟩)=gz at *
 generalize (q (Cb.mk zb zvs ⟨zwk,zws,zwn,zwl⟩ ⟨zk,zs,zn,⟨ztk,zts,ztn,ztl⟩,zus,zks,zal,zbs⟩)=true)=Q at *
 refine Qa5 ?_
 refine QfU ?_
 refine QdJ ?_
 refine QdN ?_;intro b8
 refine Qdk ?_
 refine Qa8 ?_
 refine Qab ?_
 apply Zu (rg [(0,2),(5,1),(9,5),(26,15)]) (σ:=Nat) (fun zz=>match zz with|j=>[(9,.val (.int .i64 j))]) (fun zz=>match zz with|j=>j≤i∧zb∉(bs.take j).map Cb.s) (fun zz=>match zz with|j=>i - j) (0)
 ·repeat' (first|exact Wf|apply Wd rfl|apply We rfl)
 ·exact ⟨Nat.zero_le _,by simp⟩
 ·exact by5
 rintro j hI
 try dsimp only [List.cons_append,List.nil_append] at hI ⊢
 obtain ⟨hj,hu⟩:=hI
 refine QaA ?_
 refine Qg ?_;intro c28 h28
 refine Qa ?_
 obtain ⟨rfl,g28⟩|⟨rfl,g28⟩:=Za h28
 ·refine Qag ?_
  obtain rfl:i=j:=by omega
  rw [if_neg (fun h=>hu (hasB_iff.1 h))] at hD
  refine Zw 66 (¬ ((m≠1∨zk=6)∧Q)) ?_ _ _ U ?_
  ·skip
   refine QaE ?_;intro c43 h43
   refine Qb ?_
   obtain ⟨rfl,g43⟩|⟨rfl,g43⟩:=Za h43
   ·skip
    refine QaK ?_
    refine Qcd ?_
    refine Qv ?_
    refine QA ?_
    refine Qax ?_;intro c59 h59
    refine Qf ?_
    obtain ⟨rfl,g59⟩|⟨rfl,g59⟩:=Za h59
    ·skip
     refine Qx ?_
     refine Qaz ?_
     refine Wa U ?_ by6 by4
     clear HW HX HB1 HB2 HB1z HB2z;first|(simp_all;done)|grind
    skip
    refine QfV ?_
    refine QfY ?_
    refine Zo 63 U U U U U (Zg (xs:=[.tmp 61,.tmp 62]) U U ((HB2z by17)) by2 ?_);intro c63 h63
    refine Qal ?_;intro c64 h64
    try replace h64:=Ym h64 h63
    refine Qaz ?_
    refine Wa U ?_ by6 by4
    clear HW HX HB1 HB2 HB1z HB2z;first|(simp_all;done)|grind
   skip
   refine Qba ?_
   refine Qaq ?_
   refine Qax ?_;intro c48 h48
   refine Qf ?_
   obtain ⟨rfl,g48⟩|⟨rfl,g48⟩:=Za h48
   ·skip
    refine Zo 50 U U U U U (Zs (cs':=[_,_,_,_,_,_]) (i:=1) U ta_97 U U U U ?_)
    refine QfY ?_
    refine Zo 52 U U U U U (Zg (xs:=[.tmp 50,.tmp 51]) U U ((HB1z by17)) by2 ?_);intro c52 h52
    refine Qal ?_;intro c53 h53
    try replace h53:=Ym h53 h52
    refine QdC ?_
    obtain ⟨rfl,g53⟩|⟨rfl,g53⟩:=Za h53
    ·skip
     refine QA ?_
     refine Qax ?_;intro c59 h59
     refine Qf ?_
     obtain ⟨rfl,g59⟩|⟨rfl,g59⟩:=Za h59
     ·skip
      refine Qx ?_
      refine Qaz ?_
      refine Wa U ?_ by6 by4
      clear HW HX HB1 HB2 HB1z HB2z;first|(simp_all;done)|grind
     skip
     refine QfV ?_
     refine QfY ?_
     refine Zo 63 U U U U U (Zg (xs:=[.tmp 61,.tmp 62]) U U ((HB2z by17)) by2 ?_);intro c63 h63
     refine Qal ?_;intro c64 h64
     try replace h64:=Ym h64 h63
     refine Qaz ?_
     refine Wa U ?_ by6 by4
     clear HW HX HB1 HB2 HB1z HB2z;first|(simp_all;done)|grind
    skip
    refine Qx ?_
    refine Qcd ?_
    refine Qm ?_
    refine Wa U ?_ by6 by4
    clear HW HX HB1 HB2 HB1z HB2z;first|(simp_all;done)|grind
   skip
   refine Qx ?_
   refine QdC ?_
   refine Qx ?_
   refine Qcd ?_
   refine Qm ?_
   refine Wa U ?_ by6 by4
   clear HW HX HB1 HB2 HB1z HB2z;first|(simp_all;done)|grind
  intro c66 h66
  refine Qc ?_
  obtain ⟨rfl,g66⟩|⟨rfl,g66⟩:=Za h66
  ·refine QL ?_
   refine ⟨i+1,⟨by show i+1≤bs.length;omega,?_,?_⟩,by show bs.length - (i+1)<bs.length - i;omega,by5,by4⟩
   ·rw [hts,List.map_append];exact hD
   rw [hG1z.2 (Classical.not_not.1 g66),Bool.true_and] at hA
   exact hA
  refine QcU ?_
  refine QcD ?_
  have hgz:gz=false:=by
   cases gz with
   | false=>rfl
   | true=>exact absurd (hG1z.1 rfl) g66
  rw [hgz,Bool.false_and] at hA
  subst hA
  rw [if_neg by18] at hr
  subst hr
  exact Zy (i:=2) U U U U Zx U by1 (Xp _) ⟨U,U⟩
 refine Qk ?_
 obtain ⟨⟨yb,yvs,⟨ywk,yws,ywn,ywl⟩,⟨yk,ys,yn,⟨ytk,yts,ytn,ytl⟩,yus,yks,yal,ybs⟩⟩,hxy⟩:=Zj (l:=bs) (i:=j) by8
 have hcy:=Cb.cellss_get hxy
 have hmy:=Wg hxy
 refine Q6 ?_
 refine QaF ?_
 refine Zq 34 U U (Zh U te_27 U (.seq _ _) U U (hcy) ⟨U,U⟩) ?_
 refine Q3 ?_
 refine Qbv ?_
 refine Yj 39 U U (fun _ q=>op_seql U U U q) ?_;intro c39 h39
 show AGo _ _ _ _ _ _ _
 refine Qc ?_
 obtain ⟨rfl,g39⟩|⟨rfl,g39⟩:=Za h39
 ·refine QL ?_
  refine ⟨j+1,⟨by show j+1≤i;omega,?_⟩,by show i - (j+1)<i - j;omega,by5,by4⟩
  rw [Yd hxy,List.map_append]
  intro h
  rcases List.mem_append.1 h with h|h
  ·exact hu h
  rw [List.map_cons,List.map_nil,List.mem_singleton] at h
  exact g39 h.symm
 refine QcU ?_
 refine QcD ?_
 have hji:j<i:=by omega
 have hmt:=Wg ((List.getElem?_take_of_lt (l:=bs) hji).trans hxy)
 have hin:zb∈(bs.take i).map Cb.s:=List.mem_map.2 ⟨_,hmt,g39⟩
 rw [if_pos (hasB_iff.2 hin)] at hD
 subst hD
 rw [if_neg by18] at hr
 subst hr
 exact Zy (i:=2) U U U U Zx U by1 (Xp _) ⟨U,U⟩
theorem patC_plain (v:En):∀ (z:Nat) (p:Pa) (t:Ty) (l:List Cb),p.size≤z→patC v p t=some l→l.map Cb.plain=l
 | 0,p,_,_,h,_=>by cases p;rw [Pa.size] at h;omega
 | z+1,.mk k s n ks pp,t,l,hz,h=>by
  rw [Pa.size] at hz
  rw [patC] at h
  split at h
  ·cases h;rfl
  split at h
  ·cases h;rfl
  split at h
  ·split at h
   ·cases h;rfl
   simp at h
  split at h
  ·simp at h
  rename_i d' c' hc
  split at h
  ·simp at h
  have key:∀ (ps:List Pa) (ts:List Ty) (l:List Cb),Pa.sizes ps≤z→patCs v ps ts=some l→l.map Cb.plain=l:=by
   intro ps
   induction ps with
   | nil=>intro ts l _ h;rw [patCs] at h;cases h;rfl;simp
   | cons p ps ih =>
    intro ts l hz h
    cases ts with
    | nil=>rw [patCs] at h;cases h;rfl;simp
    | cons t ts =>
     rw [Pa.sizes] at hz
     rw [patCs] at h
     cases h1:patC v p t with
     | none=>rw [h1] at h;simp at h
     | some a =>
      rw [h1] at h
      simp only [] at h
      cases h2:patCs v ps ts with
      | none=>rw [h2] at h;simp at h
      | some m =>
       rw [h2] at h
       cases h
       rw [List.map_append,patC_plain v z p t a by17 h1,ih ts m by17 h2]
  exact key ks _ l by17 h
theorem rCases_c (v:En) (hbr:NoBr v) (hv:EnT v) (pm:List Pm) (sc:List Cb) (vs:List ByteArray) (f:List Cb→List ByteArray→Co→Ty × Bool) (k m:Int) (s:ByteArray) (t:Ty) (ts:List Ty) (x:Co) (al:List Ca) (bs:List Cb) (r0:Ty × Bool) (h1:sc.length≤1000000000) (h3:vs.length≤1000000000) (hT:r0.1.wd) (HX:RTypC v pm sc vs x r0)
    (hq:∀ a∈al,a.q.size≤100000000)
    (HA:∀ a∈al,∀ l,patC v a.q r0.1=some l→RTypC v pm (sc++l) vs a.e (f (sc++l) vs a.e)) (r:Ty × Bool)
    (hr:nrm (if rightC v vs t=true then (t,r0.2 && al.all fun a=>altQ v f sc vs t r0.1 a) else (tyZ,false))=r) :
    PCall Tryz.prog 134 [.agg (wcC v (Pm.cellss pm) sc vs),.agg (Co.mk k s m t ts [x] al bs).cells] (.tup [.agg r.1.cells,.val (.bool r.2)]):=by
 have HR:=rRight_c v hbr vs t
 obtain ⟨⟨nk,ns,nn,nl⟩,hN,hNe⟩:=nrm_mk r0
 unfold RTypC at HX
 rw [hN] at HX
 clear hN
 obtain ⟨u,c22⟩:=r0
 replace hNe:c22=true→Ty.mk nk ns nn nl=u:=hNe
 replace HX:PCall Tryz.prog 78 _ (.tup [.agg _,.val (.bool c22)]):=HX
 replace hT:u.wd:=hT
 replace HA:∀ a∈al,∀ l,patC v a.q u=some l→RTypC v pm (sc++l) vs a.e (f (sc++l) vs a.e):=HA
 replace hr:nrm (if rightC v vs t=true then (t,c22 && al.all fun a=>altQ v f sc vs t u a) else (tyZ,false))=r:=hr
 generalize rightC v vs t=R at *
 obtain ⟨w,hw⟩:∃ w,(al.all fun a=>altQ v f sc vs t u a)=w:=⟨_,rfl⟩
 rw [hw] at hr
 replace hr:(c22=true∧R=true∧w=true→r=(t,true))∧(¬ (c22=true∧R=true∧w=true)→r=(tyZ,false)):=by
  constructor
  ·rintro ⟨q1,q2,q3⟩
   rw [← hr,if_pos q2,q1,q3]
   exact nrm_t U
  intro q
  rw [← hr]
  by_cases q2:R=true
  ·rw [if_pos q2]
   exact nrm_f (by
    show (c22 && w)=false
    cases c22 <;> cases w <;> simp_all)
  rw [if_neg q2];exact nrm_f rfl
 have hla:=Ca.cellss_len al
 have hcx:=Co.cellss_get (ts:=[x]) (i:=0) (t:=x) rfl
 have HPt:c22=true→∀ a∈al,PatC v a.q ⟨nk,ns,nn,nl⟩ (patR v a.q u):=fun h a ha=>by
  rw [hNe h]
  exact rPat_c v hv a.q.size a.q u (Nat.le_refl _) (by have:=hq a ha;omega) hT
 clear hNe
 obtain ⟨xk,xs,xn,⟨xtk,xts,xtn,xtl⟩,xus,xks,xal,xbs⟩:=x
 have HW:=fun l (hl:l.length≤1000000000)=>rAnd_c v (Pm.cellss pm) sc l vs [] h1 hl h3 by18
 rw [List.append_nil] at HW
 have HS:=fun N=>SameType_c N t
 obtain ⟨tk,tn,tm,tl⟩:=t
 have hcells:v.cells=[.seq 5 (Da.cellss v.da),.seq 6 (Cl.cellss v.cl),.seq 8 (In.cellss v.ins)]:=by cases v;rfl
 unfold PatC wpC at HPt
 unfold wcC at HX HW ⊢
 simp only [hcells,List.cons_append,List.nil_append] at HX HW HR HPt ⊢
 refine Zc Tryz.func134 U (by kernel_rfl) U (Wc U) ?_
 refine Qc8 ?_;intro b4
 refine QG ?_
 refine QdS ?_
 refine Qd4 ?_
 refine Qda ?_
 refine Zi 20 (none) (i:=5) U U U U U (Zd (xs:=[.tmp 15,.tmp 19]) U U (HX) by2 ⟨U,U⟩) ?_
 refine Qb4 ?_
 refine Xa (i:=9) U U U (Yb (cs':=[_,_,_,_]) U tz_24 U U (fun b6=>⟨_,U,?_⟩))
 refine QcL ?_
 refine QZ ?_
 show AGo _ _ _ _ _ _ _
 refine Qcy ?_
 refine Zw 34 (¬ (c22=true∧R=true)) ?_ _ _ U ?_
 ·skip
  refine Qbx ?_;intro c24 h24
  try replace h24:=Ym h24 h22
  refine Qb ?_
  obtain ⟨rfl,g24⟩|⟨rfl,g24⟩:=Za h24
  ·skip
   refine QaI ?_
   refine Qdj ?_
   refine QA ?_
   refine Qci ?_
   refine Zo 32 U U U U U (Zg (xs:=[.tmp 27,.tmp 29,.tmp 31]) U U (HR) by2 ?_);intro c32 h32
   refine Qal ?_;intro c33 h33
   try replace h33:=Ym h33 h32
   refine Qm ?_
   refine Wa U ?_ by6 by4
   clear HX HR HA HPt HW HS hr;first|(simp_all;done)|grind
  skip
  refine Qx ?_
  refine QaX ?_
  refine Wa U ?_ by6 by4
  clear HX HR HA HPt HW HS hr;first|(simp_all;done)|grind
 intro c34 h34
 refine Qc ?_
 obtain ⟨rfl,g34⟩|⟨rfl,g34⟩:=Za h34
 ·refine QbK ?_
  obtain ⟨q1,q2⟩:=Classical.not_not.1 g34
  subst q1
  subst q2
  replace HPt:=HPt rfl
  refine QaN ?_
  apply Zu (rg [(0,2),(5,1),(7,17),(25,66)]) (σ:=Nat) (fun zz=>match zz with|i=>[(8,.val (.int .i64 i))]) (fun zz=>match zz with|i=>i≤al.length∧((al.drop i).all fun a=>altQ v f sc vs ⟨tk,tn,tm,tl⟩ u a)=w) (fun zz=>match zz with|i=>al.length - i) (0)
  ·repeat' (first|exact Wf|apply Wd rfl|apply We rfl)
  ·exact ⟨Nat.zero_le _,hw⟩
  ·exact by5
  rintro i hI
  try dsimp only [List.cons_append,List.nil_append] at hI ⊢
  obtain ⟨hi,hA⟩:=hI
  refine Qav ?_
  refine Qfl ?_;intro n39
  refine Qg ?_;intro c40 h40
  refine Qa ?_
  obtain ⟨rfl,g40⟩|⟨rfl,g40⟩:=Za h40
  ·refine Qa3 ?_
   refine Qdb ?_
   refine QO ?_
   refine Qo ?_
   rw [Wh by17,List.all_nil] at hA
   have hr2:=hr.1 ⟨rfl,rfl,hA.symm⟩
   clear hr
   subst hr2
   exact Zy (i:=0) U U U U Zx U by1 (Xp _) ⟨U,U⟩
  refine Qk ?_
  obtain ⟨⟨⟨zqk,zqs,zqn,zql,zqp⟩,⟨zk,zs,zn,⟨ztk,zts,ztn,ztl⟩,zus,zks,zal,zbs⟩⟩,hxz⟩:=Zj (l:=al) (i:=i) by8
  have hcz:=Ca.cellss_get hxz
  have hmz:=Wg hxz
  rw [all_drop hxz] at hA
  have HPz:=HPt _ hmz
  have hqz:=hq _ hmz
  have HAz:=HA _ hmz
  simp only [Ca.q,Ca.e] at HPz hqz HAz
  have HN:=(rNames_c ⟨zqk,zqs,zqn,zql,zqp⟩ by17).pure
  have HU:=rUnlike_c (Pa.mk zqk zqs zqn zql zqp).names
  obtain ⟨hR2,hR1⟩:=patR_patC v ⟨zqk,zqs,zqn,zql,zqp⟩ u
  have hpl:=fun l=>patC_plain v _ ⟨zqk,zqs,zqn,zql,zqp⟩ u l (Nat.le_refl _)
  have hplen:=patC_len v ⟨zqk,zqs,zqn,zql,zqp⟩ u
  unfold altQ at hA
  simp only [Ca.q,Ca.e] at hA
  obtain ⟨o,ho⟩:∃ o,patC v ⟨zqk,zqs,zqn,zql,zqp⟩ u=o:=⟨_,rfl⟩
  rw [ho] at hA hR2 hR1 hpl hplen HAz
  generalize patR v ⟨zqk,zqs,zqn,zql,zqp⟩ u=pr at *
  obtain ⟨pl,c57⟩:=pr
  replace HPz:PCall Tryz.prog 175 _ (.tup [.seq 8 (enCs pl),.val (.bool c57)]):=HPz
  replace hR2:c57=o.isSome:=hR2
  replace hR1:∀ l,o=some l→pl=l:=hR1
  clear ho
  refine Qa5 ?_
  refine Zb 46 U U U (Zh U te_26 U (.seq _ _) U U (hcz) ?_)
  refine QaR ?_
  refine QdT ?_
  refine QbV ?_;intro b9
  refine QcO ?_
  refine Qu ?_
  refine QaR ?_
  refine Qbe ?_
  refine Zb 52 U U U (Zm (ns:=[0]) (xs:=[.tmp 51]) U tz_229 U tfl_229 U U U U ?_)
  refine QdU ?_
  refine Qcq ?_
  refine Zb 55 U U U (Zd (xs:=[.tmp 52,.tmp 53,.tmp 54]) U U (HPz) by2 ?_)
  refine Qa0 ?_
  refine Q1 ?_
  refine Zw 65 (¬ (c57=true∧unlB (Pa.mk zqk zqs zqn zql zqp).names=true)) ?_ _ _ U ?_
  ·skip
   refine Qbx ?_;intro c59 h59
   try replace h59:=Ym h59 h57
   refine Qb ?_
   obtain ⟨rfl,g59⟩|⟨rfl,g59⟩:=Za h59
   ·skip
    refine Zo 61 U U U U U (Zs (cs':=[_,_,_,_,_]) (i:=0) U ta_67 U U U U (Zo 62 U U U U U (Zd (xs:=[.tmp 61]) U U (HN) by2 ?_)))
    refine Zo 63 U U U U U (Zg (xs:=[.tmp 62]) U U (HU) by2 ?_);intro c63 h63
    refine Qal ?_;intro c64 h64
    try replace h64:=Ym h64 h63
    refine Qm ?_
    refine Wa U ?_ by6 by4
    clear HX HR HA HPt HW HS hr HPz HAz HN HU;first|(simp_all;done)|grind
   skip
   refine QaX ?_
   refine Wa U ?_ by6 by4
   clear HX HR HA HPt HW HS hr HPz HAz HN HU;first|(simp_all;done)|grind
  intro c65 h65
  refine Qc ?_
  obtain ⟨rfl,g65⟩|⟨rfl,g65⟩:=Za h65
  ·refine Qp ?_
   obtain ⟨q1,q2⟩:=Classical.not_not.1 g65
   obtain ⟨l,rfl⟩:∃ l,o=some l:=by
    cases o with
    | none=>rw [hR2] at q1;exact absurd q1 by18
    | some l=>exact ⟨l,rfl⟩
   obtain rfl:pl=l:=hR1 l rfl
   have hll:=hplen pl rfl
   have HNm:=(rNames21_c pl by17).pure
   rw [hpl pl rfl] at HNm
   have HWz:=HW pl by17
   have HTz:=HAz pl rfl
   obtain ⟨⟨yk,ys,yn,yl⟩,hY,hYe⟩:=nrm_mk (f (sc++pl) vs ⟨zk,zs,zn,⟨ztk,zts,ztn,ztl⟩,zus,zks,zal,zbs⟩)
   unfold RTypC wcC at HTz
   rw [hcells,hY] at HTz
   clear hY
   simp only [q2,Bool.true_and] at hA
   generalize f (sc++pl) vs ⟨zk,zs,zn,⟨ztk,zts,ztn,ztl⟩,zus,zks,zal,zbs⟩=fr at *
   obtain ⟨F,c80⟩:=fr
   replace HTz:PCall Tryz.prog 78 _ (.tup [.agg _,.val (.bool c80)]):=HTz
   replace hYe:c80=true→Ty.mk yk ys yn yl=F:=hYe
   have HSz:=HS ⟨yk,ys,yn,yl⟩
   obtain ⟨y,hy⟩:∃ y,(c80 && F.eqC ⟨tk,tn,tm,tl⟩)=y:=⟨_,rfl⟩
   replace hA:(y && (al.drop (i+1)).all fun a=>altQ v f sc vs ⟨tk,tn,tm,tl⟩ u a)=w:=by rw [← hy];exact hA
   have hyy:y=true↔c80=true∧Ty.mk yk ys yn yl=⟨tk,tn,tm,tl⟩:=by
    rw [← hy,Bool.and_eq_true,Ty.eqC_iff]
    exact ⟨fun q=>⟨q.1,(hYe q.1).trans q.2⟩,fun q=>⟨q.1,(hYe q.1).symm.trans q.2⟩⟩
   generalize (Ty.mk yk ys yn yl=⟨tk,tn,tm,tl⟩)=sq at *
   clear hy hYe
   simp only [List.cons_append,List.nil_append] at HTz
   refine Yh [0,1,2,3,4,5,6,7,8,9,10,11,12,13,14,15,16] [14,15] [[],[],[1],[0,1,2],[],[4],[],[4,5,6],[4,5,6,7],[4,5,6,7,8],[0,1,2,3,4,5,6,7,8,9],[0,1,2,3,4,5,6,7,8,9,10],[0,1,2,3,4,5,6,7,8,9,10,11],[0,1,2,3,4,5,6,7,8,9,10,11],[],[0,1,2,3,4,5,6,7,8,9,10,11,12,14],[0,1,2,3,4,5,6,7,8,9,10,11,12,13,14,15]] Yx U ?_
   refine Qd4 ?_
   refine Qw ?_
   refine Zi 70 (none) (i:=2) U U U U U (Zd (xs:=[.tmp 69]) U U (HNm) by2 ⟨U,U⟩) ?_
   refine Zi 71 (none) (i:=3) U U U U U (Zd (xs:=[.tmp 68,.tmp 70,.const (.slice none 0 0)]) U U (HWz) by2 ⟨U,U⟩) ?_
   refine QaL ?_
   refine Qw ?_
   refine Zi 75 (none) (i:=7) U U U U U (Zh U te_26 U (.seq _ _) U U (hcz) ⟨U,U⟩) ?_
   refine Qcm ?_
   refine Qd8 ?_
   refine Zi 78 (none) (i:=10) U U U U U (Zd (xs:=[.tmp 71,.tmp 77]) U U (HTz) by2 ⟨U,U⟩) ?_
   refine Qb4 ?_
   refine Xa (i:=14) U U U (Yb (cs':=[_,_,_,_]) U tz_24 U U (fun b12=>⟨_,U,?_⟩))
   refine Qhb ?_
   refine QZ ?_
   show AGo _ _ _ _ _ _ _
   refine Qbd ?_
   refine Zw 89 (¬ (y=true)) ?_ _ _ U ?_
   ·skip
    refine Qbx ?_;intro c82 h82
    try replace h82:=Ym h82 h80
    refine Qb ?_
    obtain ⟨rfl,g82⟩|⟨rfl,g82⟩:=Za h82
    ·skip
     refine Zo 84 U U U U U (Zs (cs':=[_,_,_,_]) (i:=3) U Zx U U U U ?_)
     refine Qci ?_
     refine Zo 87 U U U U U (Zg (xs:=[.tmp 84,.tmp 86]) U U (HSz) by2 ?_);intro c87 h87
     refine Qal ?_;intro c88 h88
     try replace h88:=Ym h88 h87
     refine Qm ?_
     refine Wa U ?_ by6 by4
     clear HX HR HA HPt HW HS hr HPz HAz HN HU HNm HWz HTz HSz;first|(simp_all;done)|grind
    skip
    refine QaH ?_
    refine Wa U ?_ by6 by4
    clear HX HR HA HPt HW HS hr HPz HAz HN HU HNm HWz HTz HSz;first|(simp_all;done)|grind
   intro c89 h89
   refine Qc ?_
   obtain ⟨rfl,g89⟩|⟨rfl,g89⟩:=Za h89
   ·refine QL ?_
    rw [show y=true by simpa using g89,Bool.true_and] at hA
    exact ⟨i+1,⟨by show i+1≤al.length;omega,hA⟩,by show al.length - (i+1)<al.length - i;omega,by5,by4⟩
   refine QcU ?_
   refine Qaa ?_
   have hyf:y=false:=by simpa using g89
   rw [hyf,Bool.false_and] at hA
   have hr2:=hr.2 (fun q=>by rw [← hA] at q;exact absurd q.2.2 by18)
   clear hr
   subst hr2
   exact Zy (i:=1) U U U U Zx U by1 (Xp _) ⟨U,U⟩
  refine QcU ?_
  refine Qaa ?_
  have hwf:w=false:=by
   rw [← hA]
   cases o with
   | none=>rfl
   | some l =>
    have:unlB (Pa.mk zqk zqs zqn zql zqp).names=false:=by
     cases q:unlB (Pa.mk zqk zqs zqn zql zqp).names with
     | false=>rfl
     | true=>exact absurd ⟨hR2,q⟩ g65
    simp only [this,Bool.false_and]
  have hr2:=hr.2 (fun q=>by rw [hwf] at q;exact absurd q.2.2 by18)
  clear hr
  subst hr2
  exact Zy (i:=1) U U U U Zx U by1 (Xp _) ⟨U,U⟩
 refine Qc7 ?_
 have hr2:=hr.2 (fun q=>g34 ⟨q.1,q.2.1⟩)
 clear hr
 subst hr2
 exact Zy (i:=0) U U U U Zx U by1 (Xp _) ⟨U,U⟩
theorem turn_nil (t:Ty):t.turn (putO [] [])=t:=by
 have:putO [] []=fun _=>none:=by
  funext x
  obtain ⟨k,s,n,ks⟩:=x
  exact putO_out (by rw [firstAt_out (List.not_mem_nil)];decide)
 rw [this]
 exact Ty.turn_id t
theorem nrm_id {r:Ty × Bool} (h:r.2=true∨r=(tyZ,false)):nrm r=r:=by
 rcases h with h|h
 ·exact nrm_t h
 rw [h];exact nrm_f rfl
theorem nrm_ite {p:Prop} [Decidable p] {a:Ty}:nrm (if p then (a,true) else (tyZ,false))=if p then (a,true) else (tyZ,false):=by
 by_cases h:p
 ·rw [if_pos h];exact nrm_t rfl
 rw [if_neg h];exact nrm_f rfl
theorem nrm_varC (sc:List Cb) (s:ByteArray) (ts:List Ty):nrm (varC sc s ts)=varC sc s ts:=by
 unfold varC
 cases findL s sc with
 | none=>exact nrm_f rfl
 | some b=>exact nrm_ite
theorem nrm_conQ (v:En) (f:Co→Ty × Bool) (s:ByteArray) (ts:List Ty) (ks:List Co):nrm (conQ v f s ts ks)=conQ v f s ts ks:=by
 unfold conQ
 cases conC s v.da with
 | none=>exact nrm_f rfl
 | some dc=>exact nrm_ite
theorem nrm_primQ (pm:List Pm) (f:Co→Ty × Bool) (m:Int) (ts:List Ty) (ks:List Co):nrm (primQ pm f m ts ks)=primQ pm f m ts ks:=by
 unfold primQ
 by_cases h:m<1∨pm.length<m
 ·rw [if_pos h];exact nrm_f rfl
 rw [if_neg h]
 cases pm[(m - 1).toNat]? with
 | none=>exact nrm_f rfl
 | some p=>exact nrm_ite
theorem nrm_appQ (f x:Ty × Bool):nrm (appQ f x)=appQ f x:=by
 refine nrm_id ?_
 unfold appQ
 split
 ·split
  ·split
   ·exact .inl U
   exact .inr U
  exact .inr U
 exact .inr U
theorem nrm_getQ (l:List Ty) (m:Int):nrm (getQ l m)=getQ l m:=by
 refine nrm_id ?_
 unfold getQ
 split
 ·exact .inr U
 split
 ·exact .inr U
 exact .inl U
theorem nrm_selQ (v:En) (s:ByteArray) (m:Int) (r:Ty × Bool):nrm (selQ v s m r)=selQ v s m r:=by
 by_cases hb:r.2=true∧r.1.kind=3∧r.1.name=kBr++s∧r.1.kids.length=1
 ·obtain ⟨⟨rk,rs,rn,rl⟩,c⟩:=r
  obtain ⟨b1,b2,b3,b4⟩:=hb
  replace b1:c=true:=b1
  replace b2:rk=3:=b2
  replace b3:rs=kBr++s:=b3
  obtain ⟨u,rfl⟩:=List.length_eq_one_iff.1 (show rl.length=1 from b4)
  subst b1 b2 b3
  rw [selQ_yes]
  cases partsC v s u with
  | none=>exact nrm_f rfl
  | some l=>exact nrm_getQ l m
 rw [selQ_no hb];exact nrm_f rfl
theorem rtyp_all (v:En) (hv:EnT v) (hbr:NoBr v) (pm:List Pm) (hpm:∀ p∈pm,p.sc.t.size≤1000):∀ (n:Nat) (e:Co) (K:Nat) (sc:List Cb) (vs:List ByteArray),e.size≤n→e.Okk→e.Sz→SK K sc vs→K+e.N≤9000000→RTypC v pm sc vs e (coP v pm n sc vs e)
 | 0,e,_,_,_,h,_,_,_,_=>by cases e;rw [Co.size] at h;omega
 | n+1,.mk k s m t ts ks al bs,K,sc,vs,hn,hok,hsz,hsk,hK=>by
  have IH:=rtyp_all v hv hbr pm hpm n
  have IT:=typ_all v hv pm hpm n
  rw [Co.size] at hn
  rw [Co.Okk] at hok
  rw [Co.Sz] at hsz
  rw [Co.N] at hK
  obtain ⟨ot,ots,oks,oal,obs⟩:=hok
  obtain ⟨zs,zts,zks,zal,zbs⟩:=hsz
  have hT:TK 3000 t:=ot
  have hsl:=hsk.len
  have hvl:=hsk.vl
  have IK:∀ x∈ks,RTypC v pm sc vs x (coP v pm n sc vs x):=fun x hx=>IH x K sc vs (by have:=Co.size_mem hx;omega) ((Co.okks_iff _).1 oks x hx) ((Co.szs_iff _).1 zks x hx) hsk (by have:=Co.Ns_mem hx;omega)
  have IKT:∀ x∈ks,TK (10000 * (K+x.N)) (coP v pm n sc vs x).1:=fun x hx=>(IT x K sc vs (by have:=Co.size_mem hx;omega) ((Co.okks_iff _).1 oks x hx) ((Co.szs_iff _).1 zks x hx) hsk (by have:=Co.Ns_mem hx;omega)).2
  refine RTypC_of ?_
  obtain ⟨r,hr⟩:∃ r,nrm (coP v pm (n+1) sc vs (.mk k s m t ts ks al bs))=r:=⟨_,rfl⟩
  rw [hr]
  rw [coP_succ] at hr
  refine rt_one v hbr pm sc vs k m s t ts ks al bs r zts zs by17 by17 (fun h=>by rw [if_pos h] at hr;exact hr.symm.trans (nrm_f U)) (fun h=>?_)
  rw [if_neg (by simp [h])] at hr
  constructor
  ·intro q
   have h5:k=5∨k=6∨k=7∨k=8∨k=11:=by
    unfold kidsC at q
    by_cases h5:k=5
    ·exact .inl h5
    rw [if_neg h5] at q
    by_cases h6:k=6∨k=7∨k=8∨k=11
    ·exact .inr h6
    rw [if_neg h6] at q
    omega
   clear IH IT IK IKT
   rcases h5 with rfl|rfl|rfl|rfl|rfl <;> rcases ks with _|⟨x,_|⟨y,_|⟨z,l⟩⟩⟩ <;> first|exact hr.symm.trans (nrm_f rfl)|exact absurd rfl q.2
  ·intro q
   subst q
   replace hr:nrm (varC sc s ts)=r:=hr
   rw [nrm_varC] at hr
   exact ⟨hr,fun b hb=>(hsk.tk b (findL_mem hb)).1⟩
  ·intro q
   subst q
   exact hr.symm.trans (nrm_t U)
  ·intro q
   subst q
   exact hr.symm.trans (nrm_t U)
  ·intro q
   subst q
   replace hr:nrm (conQ v (coP v pm n sc vs) s ts ks)=r:=hr
   rw [nrm_conQ] at hr
   have HC:=rCon_c v s
   unfold conQ at hr
   cases hc:conC s v.da with
   | none =>
    rw [hc] at hr
    rw [conJ_none hc] at HC
    exact ⟨-1,-1,⟨#[]⟩,[],[],[],0,⟨#[]⟩,[],0,false,HC,.inl by16,fun q=>absurd by16 q,fun q=>absurd q.2.2 by18,fun _=>hr.symm⟩
   | some dc =>
    obtain ⟨⟨ds,dps,dcs,ddv,dp⟩,⟨cs,cts,cp⟩⟩:=dc
    rw [hc] at hr
    replace hr:(if dps.length=ts.length∧okL (coP v pm n sc vs) ks (cts.map (Ty.turn (putO dps ts)))=true then (Ty.mk 3 ds 0 ts,true) else (tyZ,false))=r:=hr
    obtain ⟨i,j,hij,hi,hj⟩:=conJ_some (i0:=0) hc
    rw [hij,show 0+i=i by omega] at HC
    replace hj:dcs[j]?=some (.mk cs cts cp):=hj
    obtain ⟨hv1,hv2⟩:=hv.ct _ (Wg hi) _ (Wg hj)
    replace hv2:∀ u∈cts,u.wd:=fun u hu=>Ty.size_wd _ u (Nat.le_refl _) (by have:u.size≤9000:=hv2 u hu;omega)
    exact ⟨i,j,ds,dps,dcs,ddv,dp,cs,cts,cp,_,HC,.inr by17,fun _=>⟨hi,hj,fun hl=>rAre_c v pm sc vs _ dps ts cts ks by17 hv2 IK⟩,fun q=>by rw [if_pos q.2] at hr;exact hr.symm,fun q=>by rw [if_neg (fun w=>q ⟨by omega,w⟩)] at hr;exact hr.symm⟩
  ·intro q f x e
   subst q e
   replace hr:nrm (appQ (coP v pm n sc vs f) (coP v pm n sc vs x))=r:=hr
   rw [nrm_appQ] at hr
   have Hf:=IK f by18
   have Hx:=IK x by18
   generalize coP v pm n sc vs f=rf at *
   generalize coP v pm n sc vs x=rx at *
   obtain ⟨N,hN,hNe⟩:=nrm_mk rf
   obtain ⟨Y,hY,hYe⟩:=nrm_mk rx
   unfold RTypC at Hf Hx
   rw [hN] at Hf
   rw [hY] at Hx
   obtain ⟨F,c⟩:=rf
   obtain ⟨X,d⟩:=rx
   replace hNe:c=true→N=F:=hNe
   replace hYe:d=true→Y=X:=hYe
   by_cases hab:c=true∧F.isFun
   ·obtain ⟨rfl,hf⟩:=hab
    obtain ⟨l,a,b,rfl⟩:=Ty.fun_kids hf
    obtain rfl:=hNe rfl
    replace hr:(if true=true then (if (Ty.mk 3 arrow l [a,b]).args≠[]∧(d && X.eqC a)=true then (b,true) else (tyZ,false)) else (tyZ,false))=r:=hr
    rw [if_pos rfl,Ty.args_fun] at hr
    have hq:(d && X.eqC a)=true↔d=true∧X=a:=by rw [Bool.and_eq_true,Ty.eqC_iff]
    refine ⟨_,Y,true,d,a,b,Hf,Hx,fun _=>U,fun q=>?_,fun q=>?_⟩
    ·rw [if_pos ⟨by simp,hq.2 ⟨q.2.1,((hYe q.2.1).symm.trans q.2.2.2.symm)⟩⟩] at hr
     exact hr.symm
    rw [if_neg (fun w=>q ⟨rfl,(hq.1 w.2).1,hf,(hq.1 w.2).2.symm.trans (hYe (hq.1 w.2).1).symm⟩)] at hr
    exact hr.symm
   have hr0:r=(tyZ,false):=by
    rw [← hr]
    unfold appQ
    by_cases q:c=true
    ·rw [if_pos q]
     have hf:¬ F.isFun:=fun k=>hab ⟨q,k⟩
     have:=Ty.args_not hf
     split
     ·rw [if_neg (fun k=>k.1 this)]
     rfl
    rw [if_neg q]
   by_cases hk:N.kids.length=2
   ·obtain ⟨a,b,hk⟩:=len_two hk
    exact ⟨N,Y,c,d,a,b,Hf,Hx,fun _=>hk,fun q=>absurd ⟨q.1,hNe q.1 ▸ q.2.2.1⟩ hab,fun _=>hr0⟩
   exact ⟨N,Y,c,d,tyZ,tyZ,Hf,Hx,fun q=>absurd q.2.2 hk,fun q=>absurd ⟨q.1,hNe q.1 ▸ q.2.2.1⟩ hab,fun _=>hr0⟩
  ·intro q x e
   subst q e
   have hxn:x.N=Co.Ns [x]:=by simp [Co.Ns]
   replace hr:nrm (if rightC v vs t=true then (Ty.mk 3 arrow 0 [t,(coP v pm n (sc++[.mk s [] t co0]) vs x).1],(coP v pm n (sc++[.mk s [] t co0]) vs x).2) else (tyZ,false))=r:=hr
   have hsk2:SK (K+1) (sc++[.mk s [] t co0]) vs:=⟨by simp;omega,by omega,fun b hb=>by
    rcases List.mem_append.1 hb with hb|hb
    ·exact (hsk.tk b hb).up by17
    rw [List.mem_singleton] at hb
    subst hb
    exact hT.up by17⟩
   have HX:=IH x (K+1) (sc++[.mk s [] t co0]) vs (by have:=Co.size_mem (l:=[x]) (x:=x) by18;omega) ((Co.okks_iff _).1 oks x by18) ((Co.szs_iff _).1 zks x by18) hsk2 by17
   generalize coP v pm n (sc++[.mk s [] t co0]) vs x=r0 at *
   obtain ⟨N,hN,hNe⟩:=nrm_mk r0
   unfold RTypC at HX
   rw [hN] at HX
   refine ⟨N,r0.2,HX,fun q=>?_,fun q=>?_⟩
   ·rw [← hr,if_pos q.2,hNe q.1,show r0.2=true from q.1]
    exact nrm_t U
   rw [← hr]
   by_cases q2:rightC v vs t=true
   ·rw [if_pos q2]
    exact nrm_f (by cases h0:r0.2 with
     | true=>exact absurd ⟨h0,q2⟩ q
     | false=>rfl)
   rw [if_neg q2];exact nrm_f rfl
  ·intro q hl
   subst q
   obtain ⟨x,rfl⟩:=List.length_eq_one_iff.1 hl
   have hxn:x.N=Co.Ns [x]:=by simp [Co.Ns]
   have hbl:=Cb.Ns_len bs
   have hSa:SK (K+bs.length) (sc++bs) vs:=⟨by simp;omega,by omega,fun b hb=>by
    rcases List.mem_append.1 hb with hb|hb
    ·exact (hsk.tk b hb).up by17
    have hob:=(Cb.okks_iff _).1 obs b hb
    have hpos:1≤bs.length:=List.length_pos_of_mem hb
    cases b with|mk bn bv bt be=>exact hob.1.up by17⟩
   have HB:∀ S2,(S2=sc++bs∨S2=sc)→∀ b∈bs,BCall Tryz.prog 45 [.agg (wcC v (Pm.cellss pm) S2 vs),.agg b.cells] (bindC (coP v pm n) v S2 vs b=true):=fun S2 hS b hb=>by
    have hbn:=Cb.Ns_at hb
    have hob:=(Cb.okks_iff _).1 obs b hb
    have hzb:=(Cb.szs_iff _).1 zbs b hb
    have hsb:=Cb.size_mem hb
    have h2:SK (K+bs.length) S2 vs:=by
     rcases hS with h|h
     ·rw [h];exact hSa
     rw [h];exact hsk.up by17
    have hs2:SK (K+bs.length+b.vs.length) S2 (vs++b.vs):=⟨by have:=h2.len;omega,by simp;omega,fun c hc=>(h2.tk c hc).up by17⟩
    refine rBind_c v hbr pm S2 vs (coP v pm n) b (by have:=h2.len;omega) by17 by17 ?_
    obtain ⟨bn,bv,bt,be⟩:=b
    rw [Cb.Okk] at hob
    rw [Cb.Sz] at hzb
    rw [Cb.size] at hsb
    replace hbn:bs.length+bv.length+be.N≤Cb.Ns bs:=hbn
    replace hs2:SK (K+bs.length+bv.length) S2 (vs++bv):=hs2
    exact IH be _ _ _ by17 hob.2 hzb hs2 by17
   have HX:RTypC v pm (sc++bs) vs x (coP v pm n (sc++bs) vs x):=IH x _ _ _ (by have:=Co.size_mem (l:=[x]) (x:=x) by18;omega) ((Co.okks_iff _).1 oks x by18) ((Co.szs_iff _).1 zks x by18) hSa by17
   refine rLet_c v pm sc vs 7 m s t ts x al bs (bindC (coP v pm n) v (if m=1 then sc++bs else sc) vs) (coP v pm n (sc++bs) vs x) by17 by17 by17 (fun hm b hb=>?_) (fun hm b hb=>?_) HX r ?_
   ·rw [if_pos hm];exact HB _ (.inl rfl) b hb
   ·rw [if_neg hm];exact HB _ (.inr rfl) b hb
   replace hr:nrm (letK (unlB (bs.map Cb.s)) (bs.all fun b=>(decide (m≠1) || decide (b.e.k=6)) && bindC (coP v pm n) v (if m=1 then sc++bs else sc) vs b) (coP v pm n (sc++bs) vs) [x])=r:=hr
   rw [← hr,letK]
   by_cases q:unlB (bs.map Cb.s)=true∧(bs.all fun b=>(decide (m≠1) || decide (b.e.k=6)) && bindC (coP v pm n) v (if m=1 then sc++bs else sc) vs b)=true
   ·rw [if_pos q,if_pos q]
   rw [if_neg q,if_neg q];exact (nrm_f rfl).symm
  ·intro q hl
   subst q
   obtain ⟨x,rfl⟩:=List.length_eq_one_iff.1 hl
   have hxn:x.N=Co.Ns [x]:=by simp [Co.Ns]
   have T:=IKT x by18
   subst hr
   refine rCases_c v hbr hv pm sc vs (coP v pm n) 8 m s t ts x al bs (coP v pm n sc vs x) by17 by17 T.1 (IK x by18) (fun a ha=>?_) (fun a ha l hpl=>?_) _ U
   ·have han:=Ca.Ns_mem ha
    cases a
    rw [Ca.N] at han
    simp only [Ca.q]
    omega
   have han:=Ca.Ns_mem ha
   have hoa:=(Ca.okks_iff _).1 oal a ha
   have hza:=(Ca.szs_iff _).1 zal a ha
   have hsa:=Ca.size_mem ha
   have hpt:=patC_tk hv a.q.size a.q _ l _ (Nat.le_refl _) hpl T
   have hpn:=patC_len v a.q _ l hpl
   obtain ⟨q,ae⟩:=a
   rw [Ca.N] at han
   rw [Ca.Okk] at hoa
   rw [Ca.Sz] at hza
   rw [Ca.size] at hsa
   simp only [Ca.q] at hpt hpn
   refine IH ae (K+x.N+q.size) (sc++l) vs by17 hoa hza ⟨by simp;omega,by omega,fun b hb=>?_⟩ by17
   rcases List.mem_append.1 hb with hb|hb
   ·exact (hsk.tk b hb).up by17
   exact (hpt b hb).up by17
  ·intro q
   subst q
   replace hr:nrm (primQ pm (coP v pm n sc vs) m ts ks)=r:=hr
   rw [nrm_primQ] at hr
   unfold primQ at hr
   by_cases hm:m<1∨pm.length<m
   ·rw [if_pos hm] at hr
    exact .inl ⟨hm,hr.symm⟩
   rw [if_neg hm] at hr
   obtain ⟨⟨qs,qo,qn,⟨qvs,qps,q⟩⟩,hq⟩:=Zj (l:=pm) (i:=(m - 1).toNat) by17
   rw [hq] at hr
   replace hr:(if qvs.length=ts.length∧okL (coP v pm n sc vs) ks (q.args.map (Ty.turn (putO qvs ts)))=true then (q.ans.turn (putO qvs ts),true) else (tyZ,false))=r:=hr
   have hz:q.size≤1000:=hpm _ (Wg hq)
   have hTK:=TK.size (t:=q) (d:=1000) hz by16
   obtain ⟨a1,a2,a3⟩:=args_dp _ q (Nat.le_refl _)
   exact .inr ⟨qs,qo,qn,qvs,qps,q,_,_,_,_,hm,hq,(rArgs_c _ q (Nat.le_refl _) by17).pure,rAnswer_c _ q (Nat.le_refl _),fun hl=>⟨rPutW_c qvs by17 ts q.ans.size q.ans (Nat.le_refl _) (a3 _ hTK).1,rAre_c v pm sc vs _ qvs ts q.args ks by17 (fun u hu=>(a2 u hu _ hTK).1) IK⟩,fun q=>by rw [if_pos q] at hr;exact hr.symm,fun q=>by rw [if_neg q] at hr;exact hr.symm⟩
  ·intro q
   subst q
   replace hr:nrm (dictQ v vs (coP v pm n sc vs) s t ks)=r:=hr
   unfold dictQ starC at hr
   cases hp:partsC v s t with
   | none =>
    rw [hp] at hr
    exact ⟨[],false,false,rParts_none v s t hp,fun q=>absurd q by18,fun q=>absurd q.1 by18,fun _=>hr.symm.trans (nrm_f (by rw [Bool.and_false]))⟩
   | some l =>
    rw [hp] at hr
    replace hr:nrm (Ty.mk 3 (kBr++s) 0 [t],rightC v vs t && okL (coP v pm n sc vs) ks l)=r:=hr
    have HO:=rAre_c v pm sc vs (coP v pm n sc vs) [] [] l ks by18 (fun u hu=>(partsC_tk hv hp hT u hu).1) IK
    rw [show l.map (Ty.turn (putO [] []))=l from (List.map_congr_left fun u _=>turn_nil u).trans (List.map_id' l)] at HO
    refine ⟨l,true,_,rParts_some v hv s t l hp,fun _=>HO,fun q=>?_,fun q=>?_⟩
    ·rw [q.2.1,q.2.2] at hr
     exact hr.symm.trans (nrm_t U)
    refine hr.symm.trans (nrm_f ?_)
    show (rightC v vs t && okL (coP v pm n sc vs) ks l)=false
    generalize rightC v vs t=a at *
    generalize okL (coP v pm n sc vs) ks l=b at *
    cases a <;> cases b <;> simp_all
  ·intro q x e
   subst q e
   replace hr:nrm (selQ v s m (coP v pm n sc vs x))=r:=hr
   rw [nrm_selQ] at hr
   have HX:=IK x by18
   generalize coP v pm n sc vs x=r0 at *
   obtain ⟨N,hN,hNe⟩:=nrm_mk r0
   unfold RTypC at HX
   rw [hN] at HX
   refine ⟨N,r0.2,HX,?_⟩
   rw [← hr]
   refine selG_law hNe (fun u _=>?_)
   cases hp:partsC v s u with
   | none=>exact rParts_none v s u hp
   | some l=>exact rParts_some v hv s u l hp
  intro q
  rw [if_neg by17,if_neg by17,if_neg by17,if_neg by17,if_neg by17,if_neg by17,if_neg by17,if_neg by17,if_neg by17,if_neg by17,if_neg by17] at hr
  exact hr.symm.trans (nrm_f U)
def psC (L:List Tok) (p:PS):List AV:=[.seq 4 (L.map Tok.av),.val (.int .i64 p.at_),.val (.int .i64 p.lv),.val (.int .i64 p.e),.val (.int .i64 p.wh)]
theorem next_c (b:Nat) (L:List Tok) (p:PS):KCall Tryz.prog 54 [.ptr b 0] [.loc b (psC L p)] (.agg (nxt L p).av):=by
 obtain ⟨a,lv,e,wh⟩:=p
 have hl:(L.map Tok.av).length=L.length:=List.length_map _
 simp only [psC]
 refine Zc Tryz.func54 U (by kernel_rfl) U (Wc U) ?_
 refine Qe ?_
 refine QR ?_;intro b2
 refine Qdr ?_
 refine c_boold 19 (e≠0∨L.length≤a) Yx U ?_ _ _ U ?_
 ·skip
  refine QF ?_
  refine Zq 4 U U (op_nilCheck_m U U ⟨U,U⟩) ?_
  refine QbR ?_
  refine QdM ?_
  refine Yj 7 U U (fun _ q=>op_neq U U U q) ?_;intro c7 h7
  refine QF ?_
  obtain ⟨rfl,g7⟩|⟨rfl,g7⟩:=Za h7
  ·skip
   refine QaT ?_
   refine Ye 10 U U U U (op_nilCheck_m U U ⟨U,U⟩) ?_
   refine QdX ?_
   refine Ye 12 U U U U (Xl (i:=1) U ta_3 U U U ⟨U,U⟩) ?_
   refine QaT ?_
   refine Ye 14 U U U U (op_nilCheck_m U U ⟨U,U⟩) ?_
   refine QdX ?_
   refine Ye 16 U U U U (Xl (i:=1) U ta_105 U U U ⟨U,U⟩) ?_
   refine Ye 17 U U U U (Yw U tu_105 U (.seq _ _) (fun _=>⟨U,U⟩)) ?_
   refine Yk 18 U U U U (fun _ q=>op_geq U U U q) ?_;intro c18 h18
   refine QH ?_
   show BoolQ _ _ _ _ _ _
   refine Wa U ?_ by6 by4
   simp_all;done
  skip
  refine Qaf ?_
  refine Qca ?_
  refine QH ?_
  show BoolQ _ _ _ _ _ _
  refine Wa U ?_ by6 by4
  simp_all;done
 intro c19 h19
 refine Qc ?_
 obtain ⟨rfl,g19⟩|⟨rfl,g19⟩:=Za h19
 ·refine Qp ?_
  obtain ⟨t,ht⟩:=Zj (l:=L) (i:=a) by17
  have htc:(L.map Tok.av)[a]?=some t.av:=by rw [List.getElem?_map,ht];rfl
  refine Yh [0,1,2,3,4,5,6,7,8,9,10] [10] [[],[0],[0,1],[0,1,2],[],[4],[4,5],[4,5,6],[0,1,2,3,4,5,6,7],[0,1,2,3,4,5,6,7,8],[0,1,2,3,4,5,6,7,8,9]] Yx U ?_
  refine Qw ?_
  refine Qei ?_
  refine QW ?_
  refine QdR ?_
  refine Qw ?_
  refine Qei ?_
  refine QW ?_
  refine QdR ?_
  refine Zi 29 (none) (i:=8) U U U U U (Zh U te_105 U (.seq _ _) U U (htc) ⟨U,U⟩) ?_
  refine Zi 30 (none) (i:=9) U U U U U (Zt (cs':=[_,_,_,_]) U Yi U U U ⟨U,U⟩) ?_
  refine Yc 0 (i:=10) U U U U U (Zp (cs':=[_,_,_,_]) (i:=0) U ts_109 U U U U U (Wc U) U ⟨_,U,?_⟩)
  show AGo _ _ _ _ _ _ _
  refine QI ?_
  first|refine Zk (i:=0) U U U Yi U (Xu _) by4 ⟨?_,U⟩|refine Zk (i:=1) U U U Yi U (Xu _) by4 ⟨?_,U⟩
  have hn:nxt L ⟨a,lv,e,wh⟩=t:=by
   unfold nxt
   rw [if_neg (fun q=>g19 (.inl q)),ht];rfl
  rw [hn];rfl
 refine Qq ?_
 refine Qhc ?_
 refine Qaw ?_
 refine Qr ?_
 first|refine Zk (i:=0) U U U Yi U (Xu _) by4 ⟨?_,U⟩|refine Zk (i:=1) U U U Yi U (Xu _) by4 ⟨?_,U⟩
 have hn:nxt L ⟨a,lv,e,wh⟩=tok0 0:=by
  unfold nxt
  by_cases q:e≠0
  ·rw [if_pos q]
  rw [if_neg q,List.getElem?_eq_none (g19.resolve_left q)];rfl
 rw [hn];rfl
theorem is_p (b:Nat) (L:List Tok) (p:PS) (s:ByteArray):KBCall Tryz.prog 99 [.ptr b 0,.val (.string s)] [.loc b (psC L p)] (isP L p s=true):=by
 have HN:=next_c b L p
 have hI:isP L p s=true↔(6≤(nxt L p).k∧(nxt L p).t=s):=by unfold isP;simp
 generalize isP L p s=c at *
 generalize nxt L p=t at *
 obtain ⟨tk,tt,tn,ta⟩:=t
 simp only [Tok.av] at HN hI
 refine Zc Tryz.func99 U (by kernel_rfl) U (Wc U) ?_
 refine Qe ?_
 refine QK ?_
 refine Zb 7 U U U (Yq (xs:=[.tmp 6]) [0] U U U (HN) by2 ?_)
 refine QR ?_;intro b5
 refine Qaw ?_
 refine Qy ?_
 refine Zw 4 (6≤tk∧tt=s) ?_ _ _ U ?_
 ·skip
  refine Qn ?_
  refine QbS ?_;intro c10 h10
  refine Qb ?_
  obtain ⟨rfl,g10⟩|⟨rfl,g10⟩:=Za h10
  ·skip
   refine Qc3 ?_
   refine Wa U ?_ by6 by4
   clear HN hI;first|(simp_all;done)|grind
  skip
  refine Qaq ?_
  refine Qf ?_
  refine Qbf ?_;intro c15 h15
  refine QC ?_
  refine Wa U ?_ by6 by4
  clear HN hI;first|(simp_all;done)|grind
 intro c4 h4
 refine QI ?_
 exact Ze U U (Xu _) by4 ⟨⟨_,h4.trans hI.symm,U⟩,U⟩
theorem fail_c (b:Nat) (L:List Tok) (p:PS) (e wh:Int):MCall Tryz.prog 98 [.ptr b 0,.val (.int .i64 e),.val (.int .i64 wh)] (.loc b (psC L p)) (.tup []) (.loc b (psC L (failP p e wh))):=by
 obtain ⟨a,lv,e0,wh0⟩:=p
 have hf:failP ⟨a,lv,e0,wh0⟩ e wh=if e0=0 then ⟨a,lv,e,wh⟩ else ⟨a,lv,e0,wh0⟩:=rfl
 rw [hf]
 simp only [psC]
 refine Zc Tryz.func98 U (by kernel_rfl) U (Wc U) ?_
 refine QN ?_
 refine Q0 ?_
 refine QdW ?_
 refine Qn ?_
 refine Qz ?_;intro c10 h10
 refine Qa ?_
 obtain ⟨rfl,g10⟩|⟨rfl,g10⟩:=Za h10
 ·refine QX ?_
  refine Qbm ?_
  refine go_end ?_
  exact out_none U (Xt (by simp [g10] <;> rfl)) ⟨U,U⟩
 refine Qb0 ?_
 refine Qbq ?_
 refine QeZ ?_
 refine Qa ?_
 refine Q8 ?_
 refine Qbq ?_
 refine QeZ ?_
 refine Qa2 ?_
 refine go_end ?_
 exact out_none U (Xt (by simp [g10] <;> rfl)) ⟨U,U⟩
theorem take_c (b:Nat) (L:List Tok) (hL:L.length≤100000) (p:PS) (hp:p.at_≤L.length) (kind:Int) (s:ByteArray):MCall Tryz.prog 59 [.ptr b 0,.val (.int .i64 kind),.val (.string s)] (.loc b (psC L p)) (.agg (takeP L p kind s).1.av) (.loc b (psC L (takeP L p kind s).2)):=by
 have HN:=next_c b L p
 have HF:=fail_c b L p 110 (nxt L p).a
 obtain ⟨t,ht⟩:∃ t,nxt L p=t:=⟨_,rfl⟩
 obtain ⟨r,hr⟩:∃ r,takeP L p kind s=r:=⟨_,rfl⟩
 have hr0:=hr
 unfold takeP at hr
 rw [ht] at HN HF hr
 rw [hr0]
 obtain ⟨a,lv,e0,wh0⟩:=p
 obtain ⟨tk,tt,tn,ta⟩:=t
 have hp:a≤L.length:=hp
 simp only [psC,Tok.av] at HN HF hr ⊢
 refine Zc Tryz.func59 U (by kernel_rfl) U (Wc U) ?_
 refine Qe ?_
 refine QR ?_;intro b6
 refine QB ?_
 refine Zb 9 U U U (Yq (xs:=[.tmp 8]) [1] U U U (HN) by2 ?_)
 refine QR ?_;intro b7
 refine QcX ?_
 refine Qdc ?_
 refine QP ?_;intro c14 h14
 refine Qa ?_
 obtain ⟨rfl,g14⟩|⟨rfl,g14⟩:=Za h14
 ·refine QbK ?_
  refine Zw 38 ((kind<6∧tk≠kind)∨(6≤kind∧(tk<6∨tt≠s))) ?_ _ _ U ?_
  ·skip
   refine Qb ?_
   refine Qg ?_;intro c17 h17
   refine Qb ?_
   obtain ⟨rfl,g17⟩|⟨rfl,g17⟩:=Za h17
   ·skip
    refine Qx ?_
    refine Qv ?_
    refine Qf ?_
    refine Qd9 ?_;intro c26 h26
    refine Qf ?_
    obtain ⟨rfl,g26⟩|⟨rfl,g26⟩:=Za h26
    ·skip
     refine Qx ?_
     refine Qcd ?_
     refine Qaz ?_
     refine Wa U ?_ by6 by4
     clear HN HF hr;first|(simp_all;done)|grind
    skip
    refine Qaq ?_
    refine Qbn ?_;intro c30 h30
    refine Qf ?_
    obtain ⟨rfl,g30⟩|⟨rfl,g30⟩:=Za h30
    ·skip
     refine Qaq ?_
     refine Qf ?_
     refine QeS ?_;intro c35 h35
     refine QbJ ?_
     refine Wa U ?_ by6 by4
     clear HN HF hr;first|(simp_all;done)|grind
    skip
    refine Qx ?_
    refine QbJ ?_
    refine Wa U ?_ by6 by4
    clear HN HF hr;first|(simp_all;done)|grind
   skip
   refine Qaq ?_
   refine Qf ?_
   refine Qax ?_;intro c22 h22
   refine Qv ?_
   obtain ⟨rfl,g22⟩|⟨rfl,g22⟩:=Za h22
   ·skip
    refine Qf ?_
    refine Qd9 ?_;intro c26 h26
    refine Qf ?_
    obtain ⟨rfl,g26⟩|⟨rfl,g26⟩:=Za h26
    ·skip
     refine Qx ?_
     refine Qcd ?_
     refine Qaz ?_
     refine Wa U ?_ by6 by4
     clear HN HF hr;first|(simp_all;done)|grind
    skip
    refine Qaq ?_
    refine Qbn ?_;intro c30 h30
    refine Qf ?_
    obtain ⟨rfl,g30⟩|⟨rfl,g30⟩:=Za h30
    ·skip
     refine Qaq ?_
     refine Qf ?_
     refine QeS ?_;intro c35 h35
     refine QbJ ?_
     refine Wa U ?_ by6 by4
     clear HN HF hr;first|(simp_all;done)|grind
    skip
    refine Qx ?_
    refine QbJ ?_
    refine Wa U ?_ by6 by4
    clear HN HF hr;first|(simp_all;done)|grind
   skip
   refine Qah ?_
   refine Qcb ?_
   refine Qcb ?_
   refine QaS ?_
   refine QbO ?_
   refine Qm ?_
   refine Wa U ?_ by6 by4
   clear HN HF hr;first|(simp_all;done)|grind
  intro c38 h38
  refine Qc ?_
  obtain ⟨rfl,g38⟩|⟨rfl,g38⟩:=Za h38
  ·refine Qau ?_
   refine Qdc ?_
   refine QdD ?_
   refine Qej ?_
   refine Qu ?_
   refine QcJ ?_
   refine Qdg ?_
   refine Qr ?_
   rw [if_neg g14,if_neg g38] at hr;subst hr;exact Zk (i:=1) rfl rfl rfl Yi rfl (Xu _) (Xr _ (Xr _ (Xt rfl))) ⟨rfl,rfl⟩
  refine QaW ?_
  refine Qn ?_
  refine Zb 42 U U U (Zl (xs:=[.tmp 39,.const (.int .i64 110),.tmp 41]) (i:=2) U U U (HF) by2 ?_)
  refine Qu ?_
  refine Qhc ?_
  refine Qdg ?_
  refine Qr ?_
  rw [if_neg g14,if_pos g38] at hr;subst hr;exact Zk (i:=1) rfl rfl rfl Yi rfl (Xu _) by4 ⟨rfl,rfl⟩
 refine Qq ?_
 refine QcJ ?_
 refine Qdg ?_
 refine Qr ?_
 rw [if_pos g14] at hr;subst hr;exact Zk (i:=1) rfl rfl rfl Yi rfl (Xu _) by4 ⟨rfl,rfl⟩
theorem may_c (b:Nat) (L:List Tok) (hL:L.length≤100000) (p:PS) (s:ByteArray):MayCall Tryz.prog 55 [.ptr b 0,.val (.string s)] (.loc b (psC L p)) (isP L p s=true) (.loc b (psC L (stepP p))):=by
 have HI:=is_p b L p s
 have hl:=is_lt (L:=L) (p:=p) (s:=s)
 obtain ⟨a,lv,e0,wh0⟩:=p
 simp only [psC] at HI hl ⊢
 refine Zc Tryz.func55 U (by kernel_rfl) U (Wc U) ?_
 refine Qe ?_
 refine QU ?_
 refine Qb ?_
 refine Zb 7 U U U (op_callkb (xs:=[.tmp 5,.tmp 6]) [0] U U U (HI) by2 ?_);intro c7 h7
 refine Q5 ?_;intro c8 h8
 try replace h8:=Ym h8 h7
 refine Qa ?_
 obtain ⟨rfl,g8⟩|⟨rfl,g8⟩:=Za h8
 ·refine Qp ?_
  have:=hl (Classical.not_not.1 g8)
  refine Qh ?_
  refine QdW ?_
  refine Qn ?_
  refine QdD ?_
  refine QeZ ?_
  refine Qu ?_
  refine Qo ?_
  exact Ze U U (Xu _) (Xt U) (.inl ⟨Classical.not_not.1 g8,U,U⟩)
 refine QD ?_
 exact Ze U U (Xu _) (Xo _) (.inr ⟨g8,U,U⟩)
theorem deeper_c (b:Nat) (L:List Tok) (p:PS) (h1:0≤p.lv) (h2:p.lv≤1000):MCall Tryz.prog 160 [.ptr b 0] (.loc b (psC L p)) (.tup []) (.loc b (psC L (deeperP L p))):=by
 have HN:=next_c b L { p with lv:=p.lv+1 }
 have HF:=fail_c b L { p with lv:=p.lv+1 } 111 (nxt L { p with lv:=p.lv+1 }).a
 obtain ⟨t,ht⟩:∃ t,nxt L { p with lv:=p.lv+1 }=t:=⟨_,rfl⟩
 obtain ⟨r,hr⟩:∃ r,deeperP L p=r:=⟨_,rfl⟩
 have hr0:=hr
 unfold deeperP at hr
 rw [ht] at HN HF hr
 rw [hr0]
 obtain ⟨a,lv,e0,wh0⟩:=p
 obtain ⟨tk,tt,tn,ta⟩:=t
 simp only [psC,Tok.av] at HN HF hr h1 h2 ⊢
 refine Zc Tryz.func160 U (by kernel_rfl) U (Wc U) ?_
 refine QN ?_
 refine Q0 ?_
 refine QdW ?_
 refine Qn ?_
 refine QdD ?_
 refine QeZ ?_
 refine QB ?_
 refine QdW ?_
 refine Qn ?_
 refine Qbo ?_;intro c13 h13
 refine Qa ?_
 obtain ⟨rfl,g13⟩|⟨rfl,g13⟩:=Za h13
 ·refine QX ?_
  refine Qbm ?_
  refine go_end ?_
  rw [if_neg by17] at hr;subst hr;exact out_none rfl (Xt rfl) ⟨rfl,rfl⟩
 refine Q4 ?_
 refine Q8 ?_
 refine Zb 16 U U U (Yq (xs:=[.tmp 15]) [0] U U U (HN) by2 ?_)
 refine Zb 17 U U U (op_field1 (ft:=3) (fo:=3) U (by kernel_rfl) ta_3 U U ?_)
 refine Zb 18 U U U (Zl (xs:=[.tmp 14,.const (.int .i64 111),.tmp 17]) (i:=0) U U U (HF) by2 ?_)
 refine Qa2 ?_
 refine go_end ?_
 rw [if_pos by17] at hr;subst hr;exact out_none rfl (Xt rfl) ⟨rfl,rfl⟩
theorem pName_c (b:Nat) (L:List Tok) (hL:L.length≤100000) (n:Nat) (p:PS) (k:POk L n p):MCall Tryz.prog 103 [.ptr b 0] (.loc b (psC L p)) (.agg (nameP L p).1.av) (.loc b (psC L (nameP L p).2)):=by
 refine Zc Tryz.func103 U (by kernel_rfl) U (Wc U) ?_
 refine Qe ?_
 refine QR ?_;intro b2
 refine QaB ?_
 refine Zb 5 U U U (op_mayc (xs:=[.tmp 4,.const (.string ⟨#[40]⟩)]) (i:=1) U U U (may_c b L hL p kLP) by2 ?_ ?_)
 ·intro g5
  refine Qa ?_
  refine QM ?_
  have a1:=Yf k g5
  have k1:=a1.ok k
  have a2:=Zn (kind:=5) (s:=kE) by16 k1
  have k2:=a2.ok k1
  refine Qh ?_
  refine Zb 7 U U U (Zl (xs:=[.tmp 6,.const (.int .i64 5),.const (.string ⟨#[]⟩)]) (i:=1) U U U (take_c b L hL _ k1.1 5 kE) by2 ?_)
  refine QR ?_;intro b3
  refine Qaw ?_
  refine QB ?_
  refine Zb 9 U U U (Zl (xs:=[.tmp 8,.const (.int .i64 7),.const (.string ⟨#[41]⟩)]) (i:=2) U U U (take_c b L hL _ k2.1 7 kRP) by2 ?_)
  refine Qu ?_
  refine QcJ ?_
  refine Qdg ?_
  refine Qr ?_
  rw [nameP,if_pos g5];exact Zk (i:=1) rfl rfl rfl Yi rfl (Xu _) (Xr _ (Xr _ (Xt rfl))) ⟨rfl,rfl⟩
 intro g5
 refine Qa ?_
 refine Qau ?_
 refine Zb 12 U U U (Zl (xs:=[.tmp 11,.const (.int .i64 1),.const (.string ⟨#[]⟩)]) (i:=1) U U U (take_c b L hL _ k.1 1 kE) by2 ?_)
 refine Qaw ?_
 refine Qr ?_
 rw [nameP,if_neg g5];exact Zk (i:=0) rfl rfl rfl Yi rfl (Xu _) (Xr _ (Xt rfl)) ⟨rfl,rfl⟩
theorem uppersL_go {L:List Tok} {f:Nat} {p:PS} {acc:List ByteArray} (h:isP L p kComma=true):uppersL L (f+1) p acc=uppersL L f (takeP L (stepP p) 2 kE).2 (acc++[(takeP L (stepP p) 2 kE).1.t]):=by rw [uppersL,if_pos h]
theorem uppersL_end {L:List Tok} {f:Nat} {p:PS} {acc:List ByteArray} (h:¬ isP L p kComma=true):uppersL L f p acc=(acc,p):=by
 cases f with
 | zero=>rfl
 | succ f=>rw [uppersL,if_neg h]
theorem uppers_c (b:Nat) (L:List Tok) (hL:L.length≤100000) (n:Nat) (p:PS) (k:POk L n p):MCall Tryz.prog 102 [.ptr b 0] (.loc b (psC L p)) (.seq 1 (strs (uppersP L p).1)) (.loc b (psC L (uppersP L p).2)):=by
 have a1:=Zn (L:=L) (kind:=2) (s:=kE) by16 k
 have k1:=a1.ok k
 have hE:uppersP L p=uppersL L (L.length+1) (takeP L p 2 kE).2 [(takeP L p 2 kE).1.t]:=rfl
 refine Zc Tryz.func102 U (by kernel_rfl) U (Wc U) ?_
 refine Qe ?_
 refine QK ?_
 refine Zb 5 U U U (Zl (xs:=[.tmp 4,.const (.int .i64 2),.const (.string ⟨#[]⟩)]) (i:=0) U U U (take_c b L hL _ k.1 2 kE) by2 ?_)
 refine Qe0 ?_
 refine Zb 7 U U U (Ys (xs:=[.tmp 6]) Yy U U U U U U (Wc U) ?_);intro u7
 refine Qcc ?_
 apply Yl (rg [(1,1),(3,13)]) (σ:=PS × Nat × List ByteArray × Value) (fun zz=>match zz with|(q,f,acc,u)=>[(3,.own u 1 (strs acc))]) (fun zz=>match zz with|(q,f,acc,u)=>[.own 9 1 u,.loc b (psC L q)]) (fun zz=>match zz with|(q,f,acc,u)=>POk L n q∧L.length - q.at_<f∧acc.length≤q.at_+1∧uppersP L p=uppersL L f q acc) (fun zz=>match zz with|(q,f,acc,u)=>f) (((takeP L p 2 kE).2,L.length+1,[(takeP L p 2 kE).1.t],u7))
 ·repeat' (first|exact Wf|apply Wd rfl|apply We rfl)
 ·exact ⟨k1,by omega,by simp,hE⟩
 ·exact by5
 ·exact by4
 rintro ⟨q,f,acc,u⟩ hI
 try dsimp only [List.cons_append,List.nil_append] at hI ⊢
 obtain ⟨h1,h2,h3,hu⟩:=hI
 have hq1:=h1.1
 have hle:(strs acc).length≤200000:=by rw [Ya];omega
 refine QS ?_
 refine Zb 9 U U U (op_mayc (xs:=[.tmp 8,.const (.string ⟨#[44]⟩)]) (i:=1) U U U (may_c b L hL q kComma) by2 ?_ ?_)
 ·intro g9
  refine Qa ?_
  refine Qbk ?_
  obtain ⟨f,rfl⟩:∃ f',f=f'+1:=⟨f - 1,by omega⟩
  rw [uppersL_go g9] at hu
  have b1:=Yf h1 g9
  have l1:=b1.ok h1
  have b2:=Zn (kind:=2) (s:=kE) by16 l1
  have l2:=b2.ok l1
  have b3:(stepP q).at_≤_:=b2.1
  have b4:(stepP q).at_=q.at_+1:=rfl
  have b5:=(is_lt g9).2
  have HT:=take_c b L hL _ l1.1 2 kE
  obtain ⟨⟨t2,q2⟩,e2⟩:∃ r,takeP L (stepP q) 2 kE=r:=⟨_,rfl⟩
  rw [e2] at HT hu l2 b3
  simp only [Tok.av] at HT hu l2 b3
  refine Q8 ?_
  refine Zb 12 U U U (Zl (xs:=[.tmp 11,.const (.int .i64 2),.const (.string ⟨#[]⟩)]) (i:=1) U U U (HT) by2 ?_)
  refine Qe0 ?_
  refine Zb 14 U U U (Zf (xs:=[.tmp 13]) Yy U U U U U U (Wc U) ?_)
  refine QdL ?_
  intro u15
  refine Qbl ?_
  refine ⟨(q2,f,acc++[t2.t],u15),⟨l2,(by show L.length - q2.at_<f;omega),(by show (acc++[t2.t]).length≤q2.at_+1;rw [List.length_append];simp;omega),hu⟩,Nat.lt_succ_self f,Xy U (Wb (by simp [strs,AV.cells])) by5,by4⟩
 intro g9
 refine Qa ?_
 refine Qa4 ?_
 rw [uppersL_end g9] at hu;rw [hu];exact Ze rfl rfl (Le.own_seq rfl) (Xr _ (Xo _)) ⟨rfl,rfl⟩
theorem starts_c (b:Nat) (L:List Tok) (p:PS) (what:Int):KBCall Tryz.prog 100 [.ptr b 0,.val (.int .i64 what)] [.loc b (psC L p)] (startsP L what p):=by
 have HN:=next_c b L p
 have H1:=is_p b L p kLP
 have H2:=is_p b L p kUn
 have H3:=is_p b L p kCase
 unfold startsP
 generalize isP L p kLP=x1 at *
 generalize isP L p kUn=x2 at *
 generalize isP L p kCase=x3 at *
 obtain ⟨⟨tk,tt,tn,ta⟩,ht⟩:∃ t,nxt L p=t:=⟨_,rfl⟩
 rw [ht] at HN ⊢
 simp only [Tok.av] at HN ⊢
 refine Zc Tryz.func100 U (by kernel_rfl) U (Wc U) ?_
 refine Qe ?_
 refine QK ?_
 refine Zb 7 U U U (Yq (xs:=[.tmp 6]) [0] U U U (HN) by2 ?_)
 refine Qd5 ?_
 refine Q1 ?_
 refine Zw 18 (tk=1∨tk=2∨x1=true) ?_ _ _ U ?_
 ·skip
  refine Qb ?_
  refine Qz ?_;intro c10 h10
  refine Qb ?_
  obtain ⟨rfl,g10⟩|⟨rfl,g10⟩:=Za h10
  ·skip
   refine Qat ?_;intro c13 h13
   refine Qv ?_
   obtain ⟨rfl,g13⟩|⟨rfl,g13⟩:=Za h13
   ·skip
    refine Qf ?_
    refine Zo 17 U U U U U (op_callkb (xs:=[.tmp 16,.const (.string ⟨#[40]⟩)]) [0] U U U (H1) by2 ?_);intro c17 h17
    refine Qm ?_
    refine Wa U ?_ by6 by4
    clear HN H1 H2 H3;first|(simp_all;done)|grind
   skip
   refine Qcx ?_
   refine Wa U ?_ by6 by4
   clear HN H1 H2 H3;first|(simp_all;done)|grind
  skip
  refine QbH ?_
  refine Qcx ?_
  refine Wa U ?_ by6 by4
  clear HN H1 H2 H3;first|(simp_all;done)|grind
 intro c18 h18
 refine Qc ?_
 obtain ⟨rfl,g18⟩|⟨rfl,g18⟩:=Za h18
 ·refine Qp ?_
  refine Zw 4 ((1≤what∧tk=3)∨(what=1∧x2=true)∨(what=2∧(tk=4∨x3=true))) ?_ _ _ U ?_
  ·skip
   refine QbG ?_;intro c20 h20
   refine Qb ?_
   obtain ⟨rfl,g20⟩|⟨rfl,g20⟩:=Za h20
   ·skip
    refine QbH ?_
    refine Qat ?_;intro c27 h27
    refine Qf ?_
    obtain ⟨rfl,g27⟩|⟨rfl,g27⟩:=Za h27
    ·skip
     refine QaU ?_
     refine QdC ?_
     refine Qat ?_;intro c35 h35
     refine Qf ?_
     obtain ⟨rfl,g35⟩|⟨rfl,g35⟩:=Za h35
     ·skip
      refine Qah ?_
      refine QcW ?_
      refine Qbz ?_
      refine QC ?_
      refine Wa U ?_ by6 by4
      clear HN H1 H2 H3;first|(simp_all;done)|grind
     skip
     refine Qat ?_;intro c38 h38
     refine Qf ?_
     obtain ⟨rfl,g38⟩|⟨rfl,g38⟩:=Za h38
     ·skip
      refine Qf ?_
      refine Zo 41 U U U U U (op_callkb (xs:=[.tmp 40,.const (.string ⟨#[99,97,115,101]⟩)]) [0] U U U (H3) by2 ?_);intro c41 h41
      refine Qce ?_
      refine QC ?_
      refine Wa U ?_ by6 by4
      clear HN H1 H2 H3;first|(simp_all;done)|grind
     skip
     refine QaU ?_
     refine Qce ?_
     refine QC ?_
     refine Wa U ?_ by6 by4
     clear HN H1 H2 H3;first|(simp_all;done)|grind
    skip
    refine Qf ?_
    refine Zo 30 U U U U U (op_callkb (xs:=[.tmp 29,.const (.string ⟨#[95]⟩)]) [0] U U U (H2) by2 ?_);intro c30 h30
    refine QdC ?_
    obtain ⟨rfl,g30⟩|⟨rfl,g30⟩:=Za h30
    ·skip
     refine Qat ?_;intro c35 h35
     refine Qf ?_
     obtain ⟨rfl,g35⟩|⟨rfl,g35⟩:=Za h35
     ·skip
      refine Qah ?_
      refine QcW ?_
      refine Qbz ?_
      refine QC ?_
      refine Wa U ?_ by6 by4
      clear HN H1 H2 H3;first|(simp_all;done)|grind
     skip
     refine Qat ?_;intro c38 h38
     refine Qf ?_
     obtain ⟨rfl,g38⟩|⟨rfl,g38⟩:=Za h38
     ·skip
      refine Qf ?_
      refine Zo 41 U U U U U (op_callkb (xs:=[.tmp 40,.const (.string ⟨#[99,97,115,101]⟩)]) [0] U U U (H3) by2 ?_);intro c41 h41
      refine Qce ?_
      refine QC ?_
      refine Wa U ?_ by6 by4
      clear HN H1 H2 H3;first|(simp_all;done)|grind
     skip
     refine QaU ?_
     refine Qce ?_
     refine QC ?_
     refine Wa U ?_ by6 by4
     clear HN H1 H2 H3;first|(simp_all;done)|grind
    skip
    refine Qah ?_
    refine Qcb ?_
    refine QcW ?_
    refine QC ?_
    refine Wa U ?_ by6 by4
    clear HN H1 H2 H3;first|(simp_all;done)|grind
   skip
   refine Qat ?_;intro c23 h23
   refine Qv ?_
   obtain ⟨rfl,g23⟩|⟨rfl,g23⟩:=Za h23
   ·skip
    refine Qat ?_;intro c27 h27
    refine Qf ?_
    obtain ⟨rfl,g27⟩|⟨rfl,g27⟩:=Za h27
    ·skip
     refine QaU ?_
     refine QdC ?_
     refine Qat ?_;intro c35 h35
     refine Qf ?_
     obtain ⟨rfl,g35⟩|⟨rfl,g35⟩:=Za h35
     ·skip
      refine Qah ?_
      refine QcW ?_
      refine Qbz ?_
      refine QC ?_
      refine Wa U ?_ by6 by4
      clear HN H1 H2 H3;first|(simp_all;done)|grind
     skip
     refine Qat ?_;intro c38 h38
     refine Qf ?_
     obtain ⟨rfl,g38⟩|⟨rfl,g38⟩:=Za h38
     ·skip
      refine Qf ?_
      refine Zo 41 U U U U U (op_callkb (xs:=[.tmp 40,.const (.string ⟨#[99,97,115,101]⟩)]) [0] U U U (H3) by2 ?_);intro c41 h41
      refine Qce ?_
      refine QC ?_
      refine Wa U ?_ by6 by4
      clear HN H1 H2 H3;first|(simp_all;done)|grind
     skip
     refine QaU ?_
     refine Qce ?_
     refine QC ?_
     refine Wa U ?_ by6 by4
     clear HN H1 H2 H3;first|(simp_all;done)|grind
    skip
    refine Qf ?_
    refine Zo 30 U U U U U (op_callkb (xs:=[.tmp 29,.const (.string ⟨#[95]⟩)]) [0] U U U (H2) by2 ?_);intro c30 h30
    refine QdC ?_
    obtain ⟨rfl,g30⟩|⟨rfl,g30⟩:=Za h30
    ·skip
     refine Qat ?_;intro c35 h35
     refine Qf ?_
     obtain ⟨rfl,g35⟩|⟨rfl,g35⟩:=Za h35
     ·skip
      refine Qah ?_
      refine QcW ?_
      refine Qbz ?_
      refine QC ?_
      refine Wa U ?_ by6 by4
      clear HN H1 H2 H3;first|(simp_all;done)|grind
     skip
     refine Qat ?_;intro c38 h38
     refine Qf ?_
     obtain ⟨rfl,g38⟩|⟨rfl,g38⟩:=Za h38
     ·skip
      refine Qf ?_
      refine Zo 41 U U U U U (op_callkb (xs:=[.tmp 40,.const (.string ⟨#[99,97,115,101]⟩)]) [0] U U U (H3) by2 ?_);intro c41 h41
      refine Qce ?_
      refine QC ?_
      refine Wa U ?_ by6 by4
      clear HN H1 H2 H3;first|(simp_all;done)|grind
     skip
     refine QaU ?_
     refine Qce ?_
     refine QC ?_
     refine Wa U ?_ by6 by4
     clear HN H1 H2 H3;first|(simp_all;done)|grind
    skip
    refine Qah ?_
    refine Qcb ?_
    refine QcW ?_
    refine QC ?_
    refine Wa U ?_ by6 by4
    clear HN H1 H2 H3;first|(simp_all;done)|grind
   skip
   refine Qah ?_
   refine QcW ?_
   refine Qv ?_
   refine Qah ?_
   refine Qcb ?_
   refine QcW ?_
   refine QC ?_
   refine Wa U ?_ by6 by4
   clear HN H1 H2 H3;first|(simp_all;done)|grind
  intro c4 h4
  refine QI ?_
  exact Ze U U (Xu _) (Xo _) ⟨⟨_,by clear HN H1 H2 H3;grind,U⟩,U⟩
 refine QD ?_
 exact Ze U U (Xu _) (Xo _) ⟨⟨_,by clear HN H1 H2 H3;grind,U⟩,U⟩
theorem typesL_go {L:List Tok} {T:PS→Ty × PS} {f:Nat} {p:PS} {acc:List Ty} (h:startsP L 0 p):typesL L T (f+1) p acc=typesL L T f (atypeG L T p).2 (acc++[(atypeG L T p).1]):=by rw [typesL,if_pos h]
theorem typesL_end {L:List Tok} {T:PS→Ty × PS} {f:Nat} {p:PS} {acc:List Ty} (h:¬ startsP L 0 p):typesL L T f p acc=(acc,p):=by
 cases f with
 | zero=>rfl
 | succ f=>rw [typesL,if_neg h]
abbrev zTyp:List AV:=[.val (.int .i64 0),.val (.string kE),.val (.int .i64 0),.val (.slice none 0 0)]
def TyC (b:Nat) (L:List Tok) (n:Nat) (T:PS→Ty × PS):Prop:=∀ q,POk L n q→MCall Tryz.prog 104 [.ptr b 0] (.loc b (psC L q)) (.agg (T q).1.cells) (.loc b (psC L (T q).2))
theorem atype_c (b:Nat) (L:List Tok) (hL:L.length≤100000) (n:Nat) (T:PS→Ty × PS) (HT:TyC b L n T) (HA:∀ q,POk L n q→Adv L q (T q).2) (p:PS) (k:POk L n p):MCall Tryz.prog 101 [.ptr b 0] (.loc b (psC L p)) (.agg (atypeG L T p).1.cells) (.loc b (psC L (atypeG L T p).2)):=by
 have HN:=next_c b L p
 have hp:=k.1
 have a1:=Zn (L:=L) (kind:=7) (s:=kLP) by16 k
 have k1:=a1.ok k
 obtain ⟨t,ht⟩:∃ t,nxt L p=t:=⟨_,rfl⟩
 obtain ⟨r,hr⟩:∃ r,atypeG L T p=r:=⟨_,rfl⟩
 have hr0:=hr
 unfold atypeG at hr
 rw [ht] at HN hr
 rw [hr0]
 obtain ⟨tk,tt,tn,ta⟩:=t
 simp only [Tok.av] at HN hr
 refine Zc Tryz.func101 U (by kernel_rfl) U (Wc U) ?_
 refine Qe ?_
 refine QE ?_;intro b2
 refine QB ?_
 refine Zb 6 U U U (Yq (xs:=[.tmp 5]) [1] U U U (HN) by2 ?_)
 refine QR ?_;intro b3
 refine Qaw ?_
 refine Qc1 ?_
 refine Qz ?_;intro c9 h9
 refine Qa ?_
 obtain ⟨rfl,g9⟩|⟨rfl,g9⟩:=Za h9
 ·refine QaC ?_
  refine Qn ?_
  refine Qz ?_;intro c22 h22
  refine Qa ?_
  obtain ⟨rfl,g22⟩|⟨rfl,g22⟩:=Za h22
  ·refine Qau ?_
   refine Zb 34 U U U (Zl (xs:=[.tmp 33,.const (.int .i64 7),.const (.string ⟨#[40]⟩)]) (i:=2) U U U (take_c b L hL p k.1 7 kLP) by2 ?_)
   refine QaB ?_
   refine Zb 36 U U U (op_mayc (xs:=[.tmp 35,.const (.string ⟨#[41]⟩)]) (i:=2) U U U (may_c b L hL (takeP L p 7 kLP).2 kRP) by2 ?_ ?_)
   ·intro g36
    refine Qa ?_
    refine Qq ?_
    refine Zb 37 U U U (Zm (ns:=[0,1]) (xs:=[.const (.int .i64 3),.const (.string ⟨#[85,110,105,116]⟩)]) U tz_24 U tfl_24 U U U U ?_)
    refine Qdd ?_
    refine Qr ?_
    rw [if_neg g9,if_neg g22,if_pos g36] at hr;subst hr;exact Zk (i:=1) rfl rfl rfl Zx rfl by3 (Xr _ (Xr _ (Xt rfl))) ⟨rfl,rfl⟩
   intro g36
   refine Qa ?_
   refine Qp ?_
   have HT1:=HT _ k1
   have k2:=(HA _ k1).ok k1
   rw [if_neg g9,if_neg g22,if_neg g36] at hr
   obtain ⟨⟨⟨xk,xs,xn,xl⟩,p3⟩,hx⟩:∃ r,T (takeP L p 7 kLP).2=r:=⟨_,rfl⟩
   rw [hx] at HT1 hr k2
   simp only [Ty.cells] at HT1
   refine Qh ?_
   refine Zb 39 U U U (Zl (xs:=[.tmp 38]) (i:=2) U U U (HT1) by2 ?_)
   refine QE ?_;intro b4
   refine QO ?_
   refine QB ?_
   refine Zb 41 U U U (Zl (xs:=[.tmp 40,.const (.int .i64 7),.const (.string ⟨#[41]⟩)]) (i:=3) U U U (take_c b L hL _ k2.1 7 kRP) by2 ?_)
   refine Qu ?_
   refine Q9 ?_
   refine QdH ?_
   refine Qr ?_
   subst hr;exact Zk (i:=2) rfl rfl rfl Zx rfl (Xu _) (Xr _ (Xr _ (Xr _ (Xt rfl)))) ⟨rfl,rfl⟩
  refine QaW ?_
  refine Qdc ?_
  refine QdD ?_
  refine Qej ?_
  refine Qbw ?_
  refine Zb 32 U U U (Zm (ns:=[0,1]) (xs:=[.const (.int .i64 1),.tmp 31]) U tz_24 U tfl_24 U U U U ?_)
  refine Qdd ?_
  refine Qr ?_
  rw [if_neg g9,if_pos g22] at hr;subst hr;exact Zk (i:=1) rfl rfl rfl Zx rfl by3 (Xr _ (Xr _ (Xt rfl))) ⟨rfl,rfl⟩
 refine QaW ?_
 refine Qdc ?_
 refine QdD ?_
 refine Qej ?_
 refine Qbw ?_
 refine Zb 19 U U U (Zm (ns:=[0,1]) (xs:=[.const (.int .i64 3),.tmp 18]) U tz_24 U tfl_24 U U U U ?_)
 refine Qdd ?_
 refine Qr ?_
 rw [if_pos g9] at hr;subst hr;exact Zk (i:=1) rfl rfl rfl Zx rfl by3 (Xr _ (Xr _ (Xt rfl))) ⟨rfl,rfl⟩
theorem Type_err (b:Nat) (L:List Tok) (p:PS) (he:p.e≠0):MCall Tryz.prog 104 [.ptr b 0] (.loc b (psC L p)) (.agg ty0.cells) (.loc b (psC L p)):=by
 refine Qhd ?_
 refine Qe ?_
 refine QE ?_;intro b2
 refine QaB ?_
 refine QdE ?_;intro c9 h9
 refine Qa ?_
 obtain ⟨rfl,g9⟩|⟨rfl,g9⟩:=Za h9
 ·exact absurd he g9
 refine QcU ?_
 refine Qc4 ?_
 exact Zk (i:=0) U U U Zx U by3 (Xr _ (Xo _)) ⟨U,U⟩
theorem Type_ok (b:Nat) (L:List Tok) (hL:L.length≤100000) (n:Nat) (T:PS→Ty × PS) (HT:TyC b L n T) (HA:∀ q,POk L n q→Adv L q (T q).2) (p:PS) (k:POk L (n+1) p) (he:p.e=0):MCall Tryz.prog 104 [.ptr b 0] (.loc b (psC L p)) (.agg (typeR L T (typeH L T (deeperP L p))).1.cells) (.loc b (psC L (typeR L T (typeH L T (deeperP L p))).2)):=by
 have kq:=deeper_ok k he
 have HN:=next_c b L (deeperP L p)
 have hq0:=kq.1
 have aH:=typeH_adv HA kq
 have kH:=aH.ok kq
 obtain ⟨t,ht⟩:∃ t,nxt L (deeperP L p)=t:=⟨_,rfl⟩
 have hkt:(nxt L (deeperP L p)).k=2→(deeperP L p).at_<L.length:=fun e=>(Xn by17).2
 have HAT:=atype_c b L hL n T HT HA (deeperP L p) kq
 obtain ⟨⟨⟨xk,xs,xn,xl⟩,q1⟩,hx⟩:∃ r,typeH L T (deeperP L p)=r:=⟨_,rfl⟩
 have hx0:=hx
 unfold typeH at hx
 rw [hx0] at kH ⊢
 simp only [] at kH
 obtain ⟨r,hr⟩:∃ r,typeR L T (Ty.mk xk xs xn xl,q1)=r:=⟨_,rfl⟩
 rw [hr]
 unfold typeR at hr
 simp only [] at hr
 rw [ht] at HN hx hkt
 obtain ⟨tk,tt,tn,ta⟩:=t
 simp only [Tok.av] at HN hx hkt
 refine Qhd ?_
 refine Qe ?_
 refine QE ?_;intro b2
 refine QaB ?_
 refine QdE ?_;intro c9 h9
 refine Qa ?_
 obtain ⟨rfl,g9⟩|⟨rfl,g9⟩:=Za h9
 ·refine Qau ?_
  refine Zb 12 U U U (Zl (xs:=[.tmp 11]) (i:=1) U U U (deeper_c b L p k.2.1 (by have:=k.2.2.1;omega)) by2 ?_)
  refine QB ?_
  refine Zb 14 U U U (Yq (xs:=[.tmp 13]) [1] U U U (HN) by2 ?_)
  refine QR ?_;intro b3
  refine Qaw ?_
  refine Qu ?_
  refine QeH ?_
  refine QE ?_;intro b4
  refine QO ?_
  refine Qa8 ?_
  refine Qdm ?_;intro c18 h18
  refine Qa ?_
  apply c_joink (rg [(1,1),(3,1),(5,35)]) (σ:=Unit) (fun zz=>match zz with|z=>[]) (fun zz=>match zz with|z=>[.loc b4 (Ty.mk xk xs xn xl).cells,.loc b3 (Tok.mk tk tt tn ta).av,.loc b2 zTyp,.loc b (psC L q1)]) (fun zz=>match zz with|z=>True)
  ·repeat' (first|exact Wf|apply Wd rfl|apply We rfl)
  ·skip
   obtain ⟨rfl,g18⟩|⟨rfl,g18⟩:=Za h18
   ·refine QX ?_
    rw [if_neg g18] at hx
    rw [hx] at HAT
    simp only [Ty.cells] at HAT
    refine Qh ?_
    refine Zb 39 U U U (Zl (xs:=[.tmp 38]) (i:=3) U U U (HAT) by2 ?_)
    refine QO ?_
    refine Qa2 ?_
    refine go_lp ?_
    first|exact ⟨(),trivial,by5,Xt rfl⟩|(rw [typesL_end g30] at hu;cases hu;exact ⟨(),trivial,by5,Xs _ (Xw (Xu _) (Xw (Xu _) (Xw (Xu _) (Xw (Le.own _ _ _) (Xv _))))) (Xq _ (Xq _ (Xq _ (Xp _))))⟩)
   refine QM ?_
   rw [if_pos g18] at hx
   have hlt:=hkt g18
   have ks:=Xd kq hlt
   refine Qh ?_
   refine Qbq ?_
   refine Qcu ?_
   refine QdD ?_
   refine Qek ?_
   refine Qu ?_
   refine Qao ?_
   refine Zb 28 U U U (Zm (ns:=[0,1]) (xs:=[.const (.int .i64 3),.tmp 27]) U tz_24 U tfl_24 U U U U ?_)
   refine QO ?_
   refine Qdl ?_
   refine Yp 24 4 ?_
   apply Yl (rg [(1,1),(3,1),(5,19),(25,15)]) (σ:=PS × Nat × List Ty × Value) (fun zz=>match zz with|(q,f,acc,u)=>[]) (fun zz=>match zz with|(q,f,acc,u)=>[.loc b4 [.val (.int .i64 3),.val (.string tt),.val (.int .i64 0),.own u 4 (Ty.cellss acc)],.loc b3 (Tok.mk tk tt tn ta).av,.loc b2 zTyp,.loc b (psC L q),.own 24 4 u]) (fun zz=>match zz with|(q,f,acc,u)=>POk L n q∧L.length - q.at_<f∧acc.length≤q.at_∧(Ty.mk 3 tt 0 (typesL L T f q acc).1,(typesL L T f q acc).2)=((Ty.mk xk xs xn xl),q1)) (fun zz=>match zz with|(q,f,acc,u)=>f) ((stepP (deeperP L p),L.length+1,[],.slice none 0 0))
   ·repeat' (first|exact Wf|apply Wd rfl|apply We rfl)
   ·exact ⟨ks.ok kq,by omega,Nat.zero_le _,hx⟩
   ·exact by5
   ·exact (Xs _ (Xw (Xu _) (Xw (Xu _) (Xw (Xu _) (Xw (Le.nilOwn 4) (Xv _))))) (Xq _ (Xq _ (Xt U))))
   rintro ⟨q,f,acc,u⟩ hI
   try dsimp only [List.cons_append,List.nil_append] at hI ⊢
   obtain ⟨h1,h2,h3,hu⟩:=hI
   have hq1:=h1.1
   have hle:(Ty.cellss acc).length≤200000:=by rw [Ty.cellss_len];omega
   refine QS ?_
   refine Zb 30 U U U (op_callkb (xs:=[.tmp 29,.const (.int .i64 0)]) [3] U U U (starts_c b L q 0) by2 ?_);intro c30 h30
   refine Qa ?_
   obtain ⟨rfl,g30⟩|⟨rfl,g30⟩:=Za h30
   ·refine QX ?_
    refine c_exit (x_code (x_lp (x_here (go_lp ?_))))
    first|exact ⟨(),trivial,by5,Xt rfl⟩|(rw [typesL_end g30] at hu;cases hu;exact ⟨(),trivial,by5,Xs _ (Xw (Xu _) (Xw (Xu _) (Xw (Xu _) (Xw (Le.own _ _ _) (Xv _))))) (Xq _ (Xq _ (Xq _ (Xp _))))⟩)
   refine Qbk ?_
   obtain ⟨f,rfl⟩:∃ f',f=f'+1:=⟨f - 1,by omega⟩
   rw [typesL_go g30] at hu
   have b1:=atype_lt HA h1 g30
   have b2:=atype_adv HA h1
   have l2:=b2.ok h1
   have HA2:=atype_c b L hL n T HT HA q h1
   obtain ⟨⟨⟨yk,ys,yn,yl⟩,q2⟩,e2⟩:∃ r,atypeG L T q=r:=⟨_,rfl⟩
   rw [e2] at HA2 hu l2 b1
   simp only [Ty.cells] at HA2
   simp only [] at b1 l2
   have l3:=l2.1
   refine Qck ?_
   refine Yc 3 (i:=3) U U U U U (Zl (xs:=[.tmp 33]) (i:=0) U U U (HA2) by2 ⟨_,U,?_⟩)
   refine Zi 35 (none) (i:=4) U U U U U (Zf (xs:=[.tmp 34]) Xj U U U U U U (Wc U) ⟨U,U⟩) ?_
   refine Yc 4 (i:=5) U U U U U (Zv (i:=0) Xj U U U U (.seq _ _) by7 (fun u36=>⟨_,U,?_⟩))
   refine QW ?_
   refine Yc 0 (i:=7) U U U U U (Zp (cs':=[_,_,_,_]) (i:=0) U ts_22 U U U U U (Wc U) U ⟨_,U,?_⟩)
   show AGo _ _ _ _ _ _ _
   refine QcT ?_
   refine ⟨(q2,f,acc++[Ty.mk yk ys yn yl],u36),⟨l2,(by show L.length - q2.at_<f;omega),(by show (acc++[Ty.mk yk ys yn yl]).length≤q2.at_;rw [List.length_append];simp;omega),hu⟩,Nat.lt_succ_self f,by5,(Xs _ (Xw (Xu _) (Xw (Xu _) (Xw (Xu _) (Xw (Wb (by rw [Ty.cellss_app];rfl)) (Xv _))))) (Xq _ (Xq _ (Xt U))))⟩
  rintro z hI
  try dsimp only [List.cons_append,List.nil_append] at hI ⊢
  refine Qc ?_
  refine QS ?_
  refine Zb 41 U U U (op_mayc (xs:=[.tmp 40,.const (.string ⟨#[45,62]⟩)]) (i:=3) U U U (may_c b L hL q1 kArrow) by2 ?_ ?_)
  ·intro g41
   refine Qa ?_
   refine Q4 ?_
   have ka:=Yf kH g41
   have kz:=ka.ok kH
   have HT1:=HT _ kz
   have kw:=(HA _ kz).ok kz
   obtain ⟨⟨⟨zk,zs,zn,zl⟩,q3⟩,e3⟩:∃ r,T (stepP q1)=r:=⟨_,rfl⟩
   rw [if_pos g41,e3] at hr
   rw [e3] at HT1 kw
   simp only [Ty.cells] at HT1
   simp only [] at kw
   have hb3:=kw.2.1
   have hb4:=kw.2.2.1
   refine Yh [0,1,2,3,4,5] [2,5] [[],[],[1],[0,1,2],[0,1,2,3],[0,1,2,3,4]] Yx U ?_
   refine QdP ?_
   refine Qw ?_
   refine Yc 3 (i:=2) U U U U U (Zl (xs:=[.tmp 43]) (i:=0) U U U (HT1) by2 ⟨_,U,?_⟩)
   refine Zi 45 (none) (i:=3) U U U U U (Zf (xs:=[.tmp 42,.tmp 44]) Xj U U U U U U (Wc U) ⟨U,U⟩) ?_
   refine Zi 46 (none) (i:=4) U U U U U (Zm (ns:=[0,1,3]) (xs:=[.const (.int .i64 3),.const (.string ⟨#[45,62]⟩),.tmp 45]) U tz_24 U tfl_24 U U U U ⟨U,U⟩) ?_
   refine Qef ?_
   show AGo _ _ _ _ _ _ _
   refine Qbd ?_
   have hb1:=kH.2.1
   have hb2:=kH.2.2.1
   refine Qh ?_
   refine Qbq ?_
   refine Qcu ?_
   refine Qay ?_
   refine Qbq ?_
   refine Qek ?_
   refine Qu ?_
   refine Q9 ?_
   refine QdH ?_
   refine Qr ?_
   subst hr;exact Zk (i:=2) rfl rfl rfl Zx rfl (Xu _) (Xr _ (Xr _ (Xr _ (Xt rfl)))) ⟨rfl,rfl⟩
  intro g41
  refine Qa ?_
  refine Qp ?_
  have hb1:=kH.2.1
  have hb2:=kH.2.2.1
  refine Qh ?_
  refine Qbq ?_
  refine Qcu ?_
  refine Qay ?_
  refine Qbq ?_
  refine Qek ?_
  refine Qu ?_
  refine Q9 ?_
  refine QdH ?_
  refine Qr ?_
  rw [if_neg g41] at hr;subst hr;exact Zk (i:=2) rfl rfl rfl Zx rfl (Xu _) (Xr _ (Xr _ (Xr _ (Xt rfl)))) ⟨rfl,rfl⟩
 exact absurd he g9
theorem Type_c (b:Nat) (L:List Tok) (hL:L.length≤100000):∀ n,TyC b L n (typeF L n)
 | 0,p,k=>Type_err b L p (fun e=>by have:=k.2.2.2 e;omega)
 | n+1,p,k=>by
  by_cases he:p.e=0
  ·have h:=Type_ok b L hL n (typeF L n) (Type_c b L hL n) (typeF_adv n) p k he
   rw [typeF,if_neg (by rw [he];simp)]
   exact h
  rw [typeF,if_pos he];exact Type_err b L p he
theorem typeP_c (b:Nat) (L:List Tok) (hL:L.length≤100000) (n:Nat) (p:PS) (k:POk L n p):MCall Tryz.prog 104 [.ptr b 0] (.loc b (psC L p)) (.agg (typeP L p).1.cells) (.loc b (psC L (typeP L p).2)):=Type_c b L hL 302 p (k.up by16)
theorem patsL_go {L:List Tok} {T:PS→Pa × PS} {f:Nat} {p:PS} {acc:List Pa} (h:startsP L 1 p):patsL L T (f+1) p acc=patsL L T f (apatG L T p).2 (acc++[(apatG L T p).1]):=by rw [patsL,if_pos h]
theorem patsL_end {L:List Tok} {T:PS→Pa × PS} {f:Nat} {p:PS} {acc:List Pa} (h:¬ startsP L 1 p):patsL L T f p acc=(acc,p):=by
 cases f with
 | zero=>rfl
 | succ f=>rw [patsL,if_neg h]
theorem Pa.cellss_app' (a b:List Pa):Pa.cellss (a++b)=Pa.cellss a++Pa.cellss b:=by simp [Pa.cellss_map]
abbrev zPa:List AV:=[.val (.int .i64 0),.val (.string kE),.val (.int .i64 0),.val (.slice none 0 0),.val (.int .i64 0)]
def PaC (b:Nat) (L:List Tok) (n:Nat) (T:PS→Pa × PS):Prop:=∀ q,POk L n q→MCall Tryz.prog 214 [.ptr b 0] (.loc b (psC L q)) (.agg (T q).1.cells) (.loc b (psC L (T q).2))
theorem apat_c (b:Nat) (L:List Tok) (hL:L.length≤100000) (n:Nat) (T:PS→Pa × PS) (HT:PaC b L n T) (HA:∀ q,POk L n q→Adv L q (T q).2) (p:PS) (k:POk L n p):MCall Tryz.prog 217 [.ptr b 0] (.loc b (psC L p)) (.agg (apatG L T p).1.cells) (.loc b (psC L (apatG L T p).2)):=by
 have HN:=next_c b L p
 have HI:=is_p b L p kUn
 have hp:=k.1
 have a1:=Zn (L:=L) (kind:=7) (s:=kLP) by16 k
 have k1:=a1.ok k
 have hkt:(nxt L p).k≠0→p.at_<L.length:=fun e=>(Xn e).2
 have hki:isP L p kUn=true→p.at_<L.length:=fun e=>(is_lt e).2
 obtain ⟨t,ht⟩:∃ t,nxt L p=t:=⟨_,rfl⟩
 obtain ⟨r,hr⟩:∃ r,apatG L T p=r:=⟨_,rfl⟩
 have hr0:=hr
 unfold apatG at hr
 rw [ht] at HN hr hkt
 rw [hr0]
 obtain ⟨tk,tt,tn,ta⟩:=t
 simp only [Tok.av] at HN hr hkt
 refine Qhe ?_
 refine Qe ?_
 refine QbV ?_;intro b2
 refine QB ?_
 refine Zb 6 U U U (Yq (xs:=[.tmp 5]) [1] U U U (HN) by2 ?_)
 refine QR ?_;intro b3
 refine Qaw ?_
 refine Qbw ?_
 refine Qhf ?_
 refine QbV ?_;intro b4
 refine QcO ?_
 refine Qy ?_
 apply c_joink (rg [(1,1),(5,33),(50,1),(59,1)]) (σ:=Int × ByteArray × Int) (fun zz=>match zz with|(kk,ss,nn)=>[]) (fun zz=>match zz with|(kk,ss,nn)=>[.loc b4 [.val (.int .i64 kk),.val (.string ss),.val (.int .i64 nn),.val (.slice none 0 0),.val (.int .i64 ta)],.loc b3 (Tok.mk tk tt tn ta).av,.loc b2 zPa,.loc b (psC L p)]) (fun zz=>match zz with|(kk,ss,nn)=>(0<kk∧(Pa.mk kk ss nn [] ta,stepP p)=r∧p.at_<L.length)∨(kk=0∧(if isP L (takeP L p 7 kLP).2 kRP=true then (Pa.mk 3 kUnit 0 [] ta,stepP (takeP L p 7 kLP).2) else ((T (takeP L p 7 kLP).2).1,(takeP L (T (takeP L p 7 kLP).2).2 7 kRP).2))=r))
 ·repeat' (first|exact Wf|apply Wd rfl|apply We rfl)
 ·skip
  refine c_block ?_
  refine Ql ?_
  refine Qdm ?_;intro c13 h13
  refine Qj ?_
  obtain ⟨rfl,g13⟩|⟨rfl,g13⟩:=Za h13
  ·refine QcF ?_;intro c21 h21
   refine Qj ?_
   obtain ⟨rfl,g21⟩|⟨rfl,g21⟩:=Za h21
   ·refine QcF ?_;intro c29 h29
    refine Qj ?_
    obtain ⟨rfl,g29⟩|⟨rfl,g29⟩:=Za h29
    ·refine QX ?_
     refine Q0 ?_
     refine Zb 36 U U U (op_callkb (xs:=[.tmp 35,.const (.string ⟨#[95]⟩)]) [3] U U U (HI) by2 ?_);intro c36 h36
     refine Qj ?_
     obtain ⟨rfl,g36⟩|⟨rfl,g36⟩:=Za h36
     ·refine QX ?_
      refine Qbm ?_
      refine QcT ?_
      first
      |(rw [if_pos g13] at hr;exact ⟨(3,tt,0),.inl ⟨by decide,hr,hkt by17⟩,by5,Xt rfl⟩)
      |(rw [if_neg g13,if_pos g21] at hr;exact ⟨(2,tt,0),.inl ⟨by decide,hr,hkt by17⟩,by5,Xt rfl⟩)
      |(rw [if_neg g13,if_neg g21,if_pos g29] at hr;exact ⟨(4,kE,tn),.inl ⟨by decide,hr,hkt by17⟩,by5,Xt rfl⟩)
      |(rw [if_neg g13,if_neg g21,if_neg g29,if_pos g36] at hr;exact ⟨(1,kE,0),.inl ⟨by decide,hr,hki g36⟩,by5,Xt rfl⟩)
      |(rw [if_neg g13,if_neg g21,if_neg g29,if_neg g36] at hr;exact ⟨(0,kE,0),.inr ⟨rfl,hr⟩,by5,Xt rfl⟩)
     refine QbX ?_
     refine Qt ?_
     refine QeE ?_
     refine Qbc ?_
     first
     |(rw [if_pos g13] at hr;exact ⟨(3,tt,0),.inl ⟨by decide,hr,hkt by17⟩,by5,Xt rfl⟩)
     |(rw [if_neg g13,if_pos g21] at hr;exact ⟨(2,tt,0),.inl ⟨by decide,hr,hkt by17⟩,by5,Xt rfl⟩)
     |(rw [if_neg g13,if_neg g21,if_pos g29] at hr;exact ⟨(4,kE,tn),.inl ⟨by decide,hr,hkt by17⟩,by5,Xt rfl⟩)
     |(rw [if_neg g13,if_neg g21,if_neg g29,if_pos g36] at hr;exact ⟨(1,kE,0),.inl ⟨by decide,hr,hki g36⟩,by5,Xt rfl⟩)
     |(rw [if_neg g13,if_neg g21,if_neg g29,if_neg g36] at hr;exact ⟨(0,kE,0),.inr ⟨rfl,hr⟩,by5,Xt rfl⟩)
    refine QdF ?_
    refine QeE ?_
    refine Qa ?_
    refine Qdt ?_
    refine Qt ?_
    refine Zr U U (Zp (cs':=[_,_,_,_,_]) (i:=0) U ts_2 U U U U U (Wc U) U ?_)
    refine Qbc ?_
    first
    |(rw [if_pos g13] at hr;exact ⟨(3,tt,0),.inl ⟨by decide,hr,hkt by17⟩,by5,Xt rfl⟩)
    |(rw [if_neg g13,if_pos g21] at hr;exact ⟨(2,tt,0),.inl ⟨by decide,hr,hkt by17⟩,by5,Xt rfl⟩)
    |(rw [if_neg g13,if_neg g21,if_pos g29] at hr;exact ⟨(4,kE,tn),.inl ⟨by decide,hr,hkt by17⟩,by5,Xt rfl⟩)
    |(rw [if_neg g13,if_neg g21,if_neg g29,if_pos g36] at hr;exact ⟨(1,kE,0),.inl ⟨by decide,hr,hki g36⟩,by5,Xt rfl⟩)
    |(rw [if_neg g13,if_neg g21,if_neg g29,if_neg g36] at hr;exact ⟨(0,kE,0),.inr ⟨rfl,hr⟩,by5,Xt rfl⟩)
   refine QdF ?_
   refine QeE ?_
   refine Qa ?_
   refine Qdt ?_
   refine Qt ?_
   refine QfZ ?_
   refine Qbc ?_
   first
   |(rw [if_pos g13] at hr;exact ⟨(3,tt,0),.inl ⟨by decide,hr,hkt by17⟩,by5,Xt rfl⟩)
   |(rw [if_neg g13,if_pos g21] at hr;exact ⟨(2,tt,0),.inl ⟨by decide,hr,hkt by17⟩,by5,Xt rfl⟩)
   |(rw [if_neg g13,if_neg g21,if_pos g29] at hr;exact ⟨(4,kE,tn),.inl ⟨by decide,hr,hkt by17⟩,by5,Xt rfl⟩)
   |(rw [if_neg g13,if_neg g21,if_neg g29,if_pos g36] at hr;exact ⟨(1,kE,0),.inl ⟨by decide,hr,hki g36⟩,by5,Xt rfl⟩)
   |(rw [if_neg g13,if_neg g21,if_neg g29,if_neg g36] at hr;exact ⟨(0,kE,0),.inr ⟨rfl,hr⟩,by5,Xt rfl⟩)
  refine QdF ?_
  refine QeE ?_
  refine Qa ?_
  refine Qdt ?_
  refine Qt ?_
  refine QfZ ?_
  refine Qbc ?_
  first
  |(rw [if_pos g13] at hr;exact ⟨(3,tt,0),.inl ⟨by decide,hr,hkt by17⟩,by5,Xt rfl⟩)
  |(rw [if_neg g13,if_pos g21] at hr;exact ⟨(2,tt,0),.inl ⟨by decide,hr,hkt by17⟩,by5,Xt rfl⟩)
  |(rw [if_neg g13,if_neg g21,if_pos g29] at hr;exact ⟨(4,kE,tn),.inl ⟨by decide,hr,hkt by17⟩,by5,Xt rfl⟩)
  |(rw [if_neg g13,if_neg g21,if_neg g29,if_pos g36] at hr;exact ⟨(1,kE,0),.inl ⟨by decide,hr,hki g36⟩,by5,Xt rfl⟩)
  |(rw [if_neg g13,if_neg g21,if_neg g29,if_neg g36] at hr;exact ⟨(0,kE,0),.inr ⟨rfl,hr⟩,by5,Xt rfl⟩)
 rintro ⟨kk,ss,nn⟩ hI
 try dsimp only [List.cons_append,List.nil_append] at hI ⊢
 refine Qbd ?_
 refine Ql ?_
 refine Qn ?_
 refine Qbo ?_;intro c40 h40
 refine Qa ?_
 obtain ⟨rfl,g40⟩|⟨rfl,g40⟩:=Za h40
 ·refine Qp ?_
  obtain ⟨_,h2⟩:=hI.resolve_left (fun q=>by omega)
  refine Qh ?_
  refine Zb 50 U U U (Zl (xs:=[.tmp 49,.const (.int .i64 7),.const (.string ⟨#[40]⟩)]) (i:=3) U U U (take_c b L hL p k.1 7 kLP) by2 ?_)
  refine QaB ?_
  refine Zb 52 U U U (op_mayc (xs:=[.tmp 51,.const (.string ⟨#[41]⟩)]) (i:=3) U U U (may_c b L hL (takeP L p 7 kLP).2 kRP) by2 ?_ ?_)
  ·intro g52
   refine Qa ?_
   refine Qq ?_
   refine Qao ?_
   refine Zb 55 U U U (Zm (ns:=[0,1,4]) (xs:=[.const (.int .i64 3),.const (.string ⟨#[85,110,105,116]⟩),.tmp 54]) U tz_67 U tfl_67 U U U U ?_)
   refine Qe1 ?_
   refine Qr ?_
   rw [if_pos g52] at h2;subst h2;exact Zk (i:=2) rfl rfl rfl ta_67 rfl by3 (Xr _ (Xr _ (Xr _ (Xt rfl)))) ⟨rfl,rfl⟩
  intro g52
  refine Qa ?_
  refine Qp ?_
  have HT1:=HT _ k1
  have k2:=(HA _ k1).ok k1
  rw [if_neg g52] at h2
  obtain ⟨⟨⟨xk,xs,xn,xl,xp⟩,p3⟩,hx⟩:∃ r,T (takeP L p 7 kLP).2=r:=⟨_,rfl⟩
  rw [hx] at HT1 h2 k2
  simp only [Pa.cells] at HT1
  refine Qh ?_
  refine Zb 57 U U U (Zl (xs:=[.tmp 56]) (i:=3) U U U (HT1) by2 ?_)
  refine QcO ?_
  refine QB ?_
  refine Zb 59 U U U (Zl (xs:=[.tmp 58,.const (.int .i64 7),.const (.string ⟨#[41]⟩)]) (i:=3) U U U (take_c b L hL _ k2.1 7 kRP) by2 ?_)
  refine Qu ?_
  refine QdU ?_
  refine Qe1 ?_
  refine Qr ?_
  subst h2;exact Zk (i:=2) rfl rfl rfl ta_67 rfl (Xu _) (Xr _ (Xr _ (Xr _ (Xt rfl)))) ⟨rfl,rfl⟩
 refine QM ?_
 obtain ⟨_,h2,h3⟩:=hI.resolve_right (fun q=>by omega)
 refine Qh ?_
 refine Qbq ?_
 refine Qcu ?_
 refine QdD ?_
 refine Qek ?_
 refine Qu ?_
 refine QdU ?_
 refine Qe1 ?_
 refine Qr ?_
 subst h2;exact Zk (i:=2) rfl rfl rfl ta_67 rfl (Le.agg (Xw (Xu _) (Xw (Xu _) (Xw (Xu _) (Xw (Xx _) (Xv _)))))) (Xr _ (Xr _ (Xr _ (Xt rfl)))) ⟨rfl,rfl⟩
theorem pat_err (b:Nat) (L:List Tok) (p:PS) (he:p.e≠0):MCall Tryz.prog 214 [.ptr b 0] (.loc b (psC L p)) (.agg pa0.cells) (.loc b (psC L p)):=by
 refine Qf0 ?_
 refine Qe ?_
 refine QbV ?_;intro b2
 refine QaB ?_
 refine QdE ?_;intro c9 h9
 refine Qa ?_
 obtain ⟨rfl,g9⟩|⟨rfl,g9⟩:=Za h9
 ·exact absurd he g9
 refine Qq ?_
 refine Zb 10 U U U (Zm (ns:=[]) (xs:=[]) U tz_67 U tfl_67 U U U U ?_)
 refine QcO ?_
 refine Qr ?_
 exact Zk (i:=0) U U U ta_67 U by3 (Xr _ (Xo _)) ⟨U,U⟩
theorem apat_con (b:Nat) (L:List Tok) (hL:L.length≤100000) (n:Nat) (p:PS) (k:POk L n p) (h2:(nxt L p).k=2):MCall Tryz.prog 217 [.ptr b 0] (.loc b (psC L p)) (.agg [.val (.int .i64 3),.val (.string (nxt L p).t),.val (.int .i64 0),.val (.slice none 0 0),.val (.int .i64 (nxt L p).a)]) (.loc b (psC L (stepP p))):=by
 have HN:=next_c b L p
 have hp:=k.1
 have hlt:p.at_<L.length:=(Xn by17).2
 obtain ⟨t,ht⟩:∃ t,nxt L p=t:=⟨_,rfl⟩
 rw [ht] at HN h2 ⊢
 obtain ⟨tk,tt,tn,ta⟩:=t
 simp only [Tok.av] at HN h2 ⊢
 refine Qhe ?_
 refine Qe ?_
 refine QbV ?_;intro b2
 refine QB ?_
 refine Zb 6 U U U (Yq (xs:=[.tmp 5]) [1] U U U (HN) by2 ?_)
 refine QR ?_;intro b3
 refine Qaw ?_
 refine Qbw ?_
 refine Qhf ?_
 refine QbV ?_;intro b4
 refine QcO ?_
 refine QcG ?_
 refine Ql ?_
 refine Qdm ?_;intro c13 h13
 refine Qj ?_
 obtain ⟨rfl,g13⟩|⟨rfl,g13⟩:=Za h13
 ·exact absurd h2 g13
 refine QdF ?_
 refine QeE ?_
 refine Qa ?_
 refine Qdt ?_
 refine Qt ?_
 refine QfZ ?_
 refine Qa2 ?_
 refine go_blk ?_
 refine Qc ?_
 refine Q2 ?_
 refine Ql ?_
 refine Qn ?_
 refine Qbo ?_;intro c40 h40
 refine Qa ?_
 obtain ⟨rfl,g40⟩|⟨rfl,g40⟩:=Za h40
 ·exact absurd g40 by16
 refine QaW ?_
 refine Qbq ?_
 refine Qcu ?_
 refine QdD ?_
 refine Qek ?_
 refine Qu ?_
 refine QdU ?_
 refine Qe1 ?_
 refine Qr ?_
 exact Zk (i:=2) U U U ta_67 U (Xu _) (Xr _ (Xr _ (Xr _ (Xt U)))) ⟨U,U⟩
theorem pat_non (b:Nat) (L:List Tok) (hL:L.length≤100000) (n:Nat) (T:PS→Pa × PS) (HT:PaC b L n T) (HA:∀ q,POk L n q→Adv L q (T q).2) (p:PS) (k:POk L (n+1) p) (he:p.e=0) (hk:¬ (nxt L (deeperP L p)).k=2) :
    MCall Tryz.prog 214 [.ptr b 0] (.loc b (psC L p)) (.agg (apatG L T (deeperP L p)).1.cells) (.loc b (psC L (decP (apatG L T (deeperP L p)).2))):=by
 have kq:=deeper_ok k he
 have HN:=next_c b L (deeperP L p)
 have HAT:=apat_c b L hL n T HT HA (deeperP L p) kq
 have kt:=(apat_adv HA kq).ok kq
 obtain ⟨t,ht⟩:∃ t,nxt L (deeperP L p)=t:=⟨_,rfl⟩
 rw [ht] at HN hk
 obtain ⟨tk,tt,tn,ta⟩:=t
 obtain ⟨⟨⟨xk,xs,xn,xl,xp⟩,q1⟩,hx⟩:∃ r,apatG L T (deeperP L p)=r:=⟨_,rfl⟩
 rw [hx] at HAT kt ⊢
 simp only [Tok.av,Pa.cells] at HN HAT hk ⊢
 simp only [] at kt
 have hb1:=kt.2.1
 have hb2:=kt.2.2.1
 refine Qf0 ?_
 refine Qe ?_
 refine QbV ?_;intro b2
 refine QaB ?_
 refine QdE ?_;intro c9 h9
 refine Qa ?_
 obtain ⟨rfl,g9⟩|⟨rfl,g9⟩:=Za h9
 ·refine Qau ?_
  refine Zb 12 U U U (Zl (xs:=[.tmp 11]) (i:=1) U U U (deeper_c b L p k.2.1 (by have:=k.2.2.1;omega)) by2 ?_)
  refine QB ?_
  refine Zb 14 U U U (Yq (xs:=[.tmp 13]) [1] U U U (HN) by2 ?_)
  refine Qd5 ?_
  refine Qz ?_;intro c16 h16
  refine QG ?_
  obtain rfl:c16=false:=by
   cases c16 with
   | false=>rfl
   | true=>exact absurd (h16.1 rfl) hk
  refine Qh ?_
  refine Zb 18 U U U (Zl (xs:=[.tmp 17]) (i:=1) U U U (HAT) by2 ?_)
  refine QbV ?_;intro b4
  refine QcO ?_
  refine QcG ?_
  apply Zu (rg [(1,1),(5,26)]) (σ:=Unit) (fun zz=>match zz with|z=>[]) (fun zz=>match zz with|z=>True) (fun zz=>match zz with|z=>0) (())
  ·repeat' (first|exact Wf|apply Wd rfl|apply We rfl)
  ·exact trivial
  ·exact by5
  rintro z hI
  try dsimp only [List.cons_append,List.nil_append] at hI ⊢
  refine QaA ?_
  refine QaU ?_
  refine Qby ?_
  refine Qa ?_
  refine QcP ?_
  refine Q0 ?_
  refine Qdc ?_
  refine Qay ?_
  refine Qbq ?_
  refine Qej ?_
  refine Qu ?_
  refine QdU ?_
  refine Qhg ?_
  refine Qr ?_
  exact Zk (i:=1) U U U ta_67 U (Xu _) (Xr _ (Xr _ (Xt U))) ⟨U,U⟩
 exact absurd he g9
theorem pat_con (b:Nat) (L:List Tok) (hL:L.length≤100000) (n:Nat) (T:PS→Pa × PS) (HT:PaC b L n T) (HA:∀ q,POk L n q→Adv L q (T q).2) (p:PS) (k:POk L (n+1) p) (he:p.e=0) (hk:(nxt L (deeperP L p)).k=2) (r:List Pa × PS) (hr:patsL L T (L.length+1) (stepP (deeperP L p)) []=r) :
    MCall Tryz.prog 214 [.ptr b 0] (.loc b (psC L p)) (.agg (Pa.mk 3 (nxt L (deeperP L p)).t 0 r.1 (nxt L (deeperP L p)).a).cells) (.loc b (psC L (decP r.2))):=by
 have kq:=deeper_ok k he
 have HN:=next_c b L (deeperP L p)
 have HAT:=apat_con b L hL n (deeperP L p) kq hk
 have hlt:(deeperP L p).at_<L.length:=(Xn by17).2
 have ks:=(Xd kq hlt).ok kq
 obtain ⟨t,ht⟩:∃ t,nxt L (deeperP L p)=t:=⟨_,rfl⟩
 rw [ht] at HN hk HAT ⊢
 obtain ⟨tk,tt,tn,ta⟩:=t
 simp only [Tok.av] at HN HAT hk ⊢
 refine Qf0 ?_
 refine Qe ?_
 refine QbV ?_;intro b2
 refine QaB ?_
 refine QdE ?_;intro c9 h9
 refine Qa ?_
 obtain ⟨rfl,g9⟩|⟨rfl,g9⟩:=Za h9
 ·refine Qau ?_
  refine Zb 12 U U U (Zl (xs:=[.tmp 11]) (i:=1) U U U (deeper_c b L p k.2.1 (by have:=k.2.2.1;omega)) by2 ?_)
  refine QB ?_
  refine Zb 14 U U U (Yq (xs:=[.tmp 13]) [1] U U U (HN) by2 ?_)
  refine Qd5 ?_
  refine Qz ?_;intro c16 h16
  refine QG ?_
  obtain rfl:c16=true:=h16.2 hk
  refine Qh ?_
  refine Zb 18 U U U (Zl (xs:=[.tmp 17]) (i:=1) U U U (HAT) by2 ?_)
  refine QbV ?_;intro b4
  refine QcO ?_
  refine QcG ?_
  refine Yp 67 5 ?_
  apply Yl (rg [(1,1),(5,26)]) (σ:=PS × Nat × List Pa × Value) (fun zz=>match zz with|(q,f,acc,u)=>[]) (fun zz=>match zz with|(q,f,acc,u)=>[.loc b4 [.val (.int .i64 3),.val (.string tt),.val (.int .i64 0),.own u 5 (Pa.cellss acc),.val (.int .i64 ta)],.loc b2 zPa,.loc b (psC L q),.own 67 5 u]) (fun zz=>match zz with|(q,f,acc,u)=>POk L n q∧L.length - q.at_<f∧acc.length≤q.at_∧patsL L T f q acc=r) (fun zz=>match zz with|(q,f,acc,u)=>f) ((stepP (deeperP L p),L.length+1,[],.slice none 0 0))
  ·repeat' (first|exact Wf|apply Wd rfl|apply We rfl)
  ·exact ⟨ks,by omega,Nat.zero_le _,hr⟩
  ·exact by5
  ·exact (Xs _ (Xw (Xu _) (Xw (Xu _) (Xw (Xu _) (Xw (Le.nilOwn 5) (Xv _))))) (Xq _ (Xt U)))
  rintro ⟨q,f,acc,u⟩ hI
  try dsimp only [List.cons_append,List.nil_append] at hI ⊢
  obtain ⟨h1,h2,h3,hu⟩:=hI
  have hq1:=h1.1
  have hb1:=h1.2.1
  have hb2:=h1.2.2.1
  have hle:(Pa.cellss acc).length≤200000:=by rw [Pa.cellss_len];omega
  refine QaA ?_
  refine Qf ?_
  refine Zo 22 U U U U U (op_callkb (xs:=[.tmp 21,.const (.int .i64 1)]) [2] U U U (starts_c b L q 1) by2 ?_);intro c22 h22
  refine Qby ?_
  refine Qa ?_
  obtain ⟨rfl,g22⟩|⟨rfl,g22⟩:=Za h22
  ·refine QcP ?_
   refine Q0 ?_
   refine Qdc ?_
   refine Qay ?_
   refine Qbq ?_
   refine Qej ?_
   refine Qu ?_
   refine QdU ?_
   refine Qhg ?_
   refine Qr ?_
   rw [patsL_end g22] at hu;subst hu;exact Zk (i:=1) rfl rfl rfl ta_67 rfl (Le.agg (Xw (Xu _) (Xw (Xu _) (Xw (Xu _) (Xw (Le.own _ _ _) (Xv _)))))) (Xr _ (Xr _ (Xq _ (Xp _)))) ⟨rfl,rfl⟩
  refine Qbk ?_
  obtain ⟨f,rfl⟩:∃ f',f=f'+1:=⟨f - 1,by omega⟩
  rw [patsL_go g22] at hu
  have b1:=apat_lt HA h1 g22
  have b2:=apat_adv HA h1
  have l2:=b2.ok h1
  have HA2:=apat_c b L hL n T HT HA q h1
  obtain ⟨⟨⟨yk,ys,yn,yl,yp⟩,q2⟩,e2⟩:∃ r,apatG L T q=r:=⟨_,rfl⟩
  rw [e2] at HA2 hu l2 b1
  simp only [Pa.cells] at HA2
  simp only [] at b1 l2
  have l3:=l2.1
  refine Qck ?_
  refine Yc 2 (i:=3) U U U U U (Zl (xs:=[.tmp 26]) (i:=0) U U U (HA2) by2 ⟨_,U,?_⟩)
  refine Zi 28 (none) (i:=4) U U U U U (Zf (xs:=[.tmp 27]) el_65 U U U U U U (Wc U) ⟨U,U⟩) ?_
  refine Yc 3 (i:=5) U U U U U (Zv (i:=0) el_65 U U U U (.seq _ _) by7 (fun u29=>⟨_,U,?_⟩))
  refine QW ?_
  refine Yc 0 (i:=7) U U U U U (Zp (cs':=[_,_,_,_,_]) (i:=0) U ts_65 U U U U U (Wc U) U ⟨_,U,?_⟩)
  show AGo _ _ _ _ _ _ _
  refine QcT ?_
  refine ⟨(q2,f,acc++[Pa.mk yk ys yn yl yp],u29),⟨l2,(by show L.length - q2.at_<f;omega),(by show (acc++[Pa.mk yk ys yn yl yp]).length≤q2.at_;rw [List.length_append];simp;omega),hu⟩,Nat.lt_succ_self f,by5,(Xs _ (Xw (Xu _) (Xw (Xu _) (Xw (Xu _) (Xw (Wb (by rw [Pa.cellss_app'];rfl)) (Xv _))))) (Xq _ (Xt U)))⟩
 exact absurd he g9
theorem pat_c (b:Nat) (L:List Tok) (hL:L.length≤100000):∀ n,PaC b L n (patF L n)
 | 0,p,k=>pat_err b L p (fun e=>by have:=k.2.2.2 e;omega)
 | n+1,p,k=>by
  by_cases he:p.e=0
  ·rw [patF,if_neg (by rw [he];simp)]
   by_cases hk:(nxt L (deeperP L p)).k=2
   ·rw [if_pos hk];exact pat_con b L hL n (patF L n) (pat_c b L hL n) (patF_adv n) p k he hk _ rfl
   rw [if_neg hk];exact pat_non b L hL n (patF L n) (pat_c b L hL n) (patF_adv n) p k he hk
  rw [patF,if_pos he];exact pat_err b L p he
theorem patP_c (b:Nat) (L:List Tok) (hL:L.length≤100000) (n:Nat) (p:PS) (k:POk L n p):MCall Tryz.prog 214 [.ptr b 0] (.loc b (psC L p)) (.agg (patP L p).1.cells) (.loc b (psC L (patP L p).2)):=pat_c b L hL 302 p (k.up by16)
end Go.Proofs.YteepjjgooplljaaGreat
namespace Go.Proofs.YteepjjgooplljaaGreat
open Go.RowKit
def rowT (i:Nat):List (List UInt8):=rowsT.getD i []
structure TblAt (w:World) (B:Nat):Prop where
 row:∀ i,i<7→w.cell? ⟨B+7,i,none⟩=some (.slice (some ⟨B+i,0,none⟩) (rowT i).length (rowT i).length)
 str:∀ i,i<7→∀ k,k<(rowT i).length→w.cell? ⟨B+i,k,none⟩=some (.string ⟨((rowT i).getD k []).toArray⟩)
theorem seven {i:Nat} (h:i<7):i=0∨i=1∨i=2∨i=3∨i=4∨i=5∨i=6:=by omega
theorem rowlen (i:Nat) (h:i<7):(rowT i).length≤6:=by
 rcases seven h with rfl|rfl|rfl|rfl|rfl|rfl|rfl <;> decide
def missTo (op:List UInt8) (i:Nat):Prop:=∀ j,j<7→j<i→(rowT j).contains op=false
theorem rowT_get {j:Nat} (h:j<rowsT.length):rowsT[j]=rowT j:=by simp [rowT,List.getD,h]
theorem lvl_at {op:List UInt8} {i:Nat} (hi:i<7) (hm:missTo op i) (hc:(rowT i).contains op=true):lvl op=i+1:=by
 unfold lvl
 congr 1
 have hi':i<rowsT.length:=hi
 rw [List.findIdx_eq hi']
 refine ⟨by rw [rowT_get hi'];exact hc,fun j hj=>?_⟩
 have hj':j<rowsT.length:=by omega
 rw [rowT_get hj']
 exact hm j hj' hj
theorem lvl_8 {op:List UInt8} (hm:missTo op 7):lvl op=8:=by
 unfold lvl
 have:rowsT.findIdx (fun r=>r.contains op)=rowsT.length:=by
  rw [List.findIdx_eq_length]
  intro r hr
  obtain ⟨j,hj,rfl⟩:=List.getElem_of_mem hr
  rw [rowT_get hj]
  exact hm j hj hj
 rw [this];rfl
theorem miss_row {op:List UInt8} {i:Nat} (h:∀ k,k<(rowT i).length→(rowT i).getD k []≠op):(rowT i).contains op=false:=by
 rw [List.contains_eq_mem,decide_eq_false_iff_not]
 intro hm
 obtain ⟨k,hk,e⟩:=List.getElem_of_mem hm
 exact h k hk (by simp [List.getD,hk,e])
theorem hit_row {op:List UInt8} {i k:Nat} (hk:k<(rowT i).length) (h:(rowT i).getD k []=op):(rowT i).contains op=true:=by
 rw [List.contains_eq_mem,decide_eq_true_eq]
 have:(rowT i)[k]=op:=by simpa [List.getD,hk] using h
 rw [← this];exact List.getElem_mem hk
theorem rLevel_c (s:ByteArray) (w:World):Calls Tryz.prog 200 #[.string s] w fun e w'=>e=.returned (.int .i64 (lvl s.toList:Nat))∧Below w.heap.size w w':=by
 go_enter Tryz.func200,Tryz.ntmps200
 go_wp2
 go_loopw [4,5] (fun vi _ wr=>∃ i:Nat,i≤7∧vi=.int .i64 i∧missTo s.toList i∧TblAt wr w.heap.size∧Below w.heap.size w wr) (fun vi _ _=>7 - (intOf vi).toNat)
 case atStart =>
  refine ⟨0,by omega,U,fun j h hj=>by omega,⟨?_,?_⟩,?_⟩
  ·intro i h
   rw [World.cell?_alloc_at _ _ _ _ (by simp only [World.size_alloc])]
   rcases seven h with rfl|rfl|rfl|rfl|rfl|rfl|rfl <;> rfl
  ·intro i h k hk
   rcases seven h with rfl|rfl|rfl|rfl|rfl|rfl|rfl
   all_goals
    have hk6:k=0∨k=1∨k=2∨k=3∨k=4∨k=5:=by have:=rowlen _ h;omega
    rcases hk6 with rfl|rfl|rfl|rfl|rfl|rfl
    all_goals first|(exact absurd hk by16)|skip
    all_goals
     repeat (rw [World.cell?_alloc_past _ _ _ (by simp only [World.size_alloc];omega)])
     rw [World.cell?_alloc_at _ _ _ _ (by first|rfl|(simp only [World.size_alloc];done)|(simp only [World.size_alloc];omega))]
     rfl
  exact (((((((((Below.refl _ _).alloc (Nat.le_refl _) _).alloc by18 _).alloc by13 _).alloc by13 _).alloc by13 _).alloc by13 _).alloc by13 _).alloc by13 _)
 case round =>
  obtain ⟨i,hi,rfl,hm,hT,hbel⟩:=hrel
  by_cases hi7:i<7
  ·have hr:=hT.row i hi7
   have hl:=rowlen i hi7
   obtain ⟨n,hn⟩:∃ n,n=(rowT i).length:=⟨_,rfl⟩
   rw [← hn] at hr hl
   have HN:=Lib.hid hn
   have HM:=Lib.hid hm
   clear hn hm
   have d1:decide ((i:Int)<7)=true:=by simp;omega
   go_wp2
   go_loop [5] (fun vk=>∃ k:Nat,k≤n∧vk=.int .i64 k∧∀ j,j<k→(rowT i).getD j []≠s.toList) (fun vk=>n - (intOf vk).toNat)
   case atStart=>exact ⟨0,by omega,rfl,fun j hj=>by omega⟩
   case round =>
    obtain ⟨k,hk,rfl,hmk⟩:=hrel
    have HMK:=Lib.hid hmk
    clear hmk
    by_cases hkn:k<n
    ·have cs:=hT.str i hi7 k (by rw [← HN.out];exact hkn)
     obtain ⟨sk,hsk⟩:∃ sk:ByteArray,sk=⟨((rowT i).getD k []).toArray⟩:=⟨_,rfl⟩
     have es:sk.toList=(rowT i).getD k []:=by rw [ByteArray.toList_eq,hsk]
     rw [← hsk] at cs
     clear hsk
     have HES:=Lib.hid es
     clear es
     by_cases heq:(sk.toList == s.toList)=true
     ·go_wp2
      go_ret
      have h1:(rowT i).getD k []=s.toList:=by rw [← HES.out];simpa using heq
      exact ⟨by rw [lvl_at hi7 HM.out (hit_row (by rw [← HN.out];exact hkn) h1)];rfl,hbel⟩
     have heq':(sk.toList == s.toList)=false:=by simpa using heq
     clear heq
     go_wp2
     go_round
     case rel=>exact ⟨k+1,by omega,by go_num,fun j hj=>by
      by_cases e:j=k
      ·subst e;rw [← HES.out];exact beq_eq_false_iff_ne.1 heq'
      exact HMK.out j by17⟩
     case measure=>simp [intOf];omega
    go_wp2
    go_roundw
    case rel=>exact ⟨i+1,by omega,by go_num,fun j h hj=>by
     by_cases e:j=i
     ·subst e;exact miss_row (fun k' hk'=>HMK.out k' (by have:=HN.out;omega))
     exact HM.out j h by17,hT,hbel⟩
    case measure=>simp [intOf];omega
  have he:i=7:=by omega
  subst he
  go_wp2
  go_ret
  exact ⟨by rw [lvl_8 hm];rfl,hbel⟩
theorem Level_p (s:ByteArray):PCall Tryz.prog 200 [.val (.string s)] (.val (.int .i64 (lvl s.toList:Nat))) :=
 PCall.of_calls (vs:=[.string s]) (enters_of Tryz.func200 (by kernel_rfl) rfl) (fun w=>rLevel_c s w)
theorem Level_at (ops:List Tok) (i:Nat):PCall Tryz.prog 200 [.val (.string ((ops[i]?).getD (tok0 0)).t)] (.val (.int .i64 (lvT ops i:Nat))):=Level_p _
theorem strs_at {ops:List Tok} {i:Nat} (h:i<ops.length):(strs (ops.map Tok.t))[i]?=some [.val (.string ((ops[i]?).getD (tok0 0)).t)]:=by
 simp [strs,List.getElem?_eq_getElem h]
theorem sideN_8 (l:Nat):((sideN l:Nat):Int)=if (l:Int)=4 then 0 else if (l:Int)<6 then 2 else 1:=by
 unfold sideN
 repeat' split
 all_goals first|rfl|omega
theorem back_eq {lv:Nat→Nat} {j:Nat} (h:¬ (0<j∧4<lv (j - 1))):backL lv j=true↔(0<j∧lv (j - 1)=4):=by
 cases j with
 | zero=>simp [backL]
 | succ j =>
  simp only [Nat.add_sub_cancel] at h ⊢
  rw [backL,if_neg (fun q=>h ⟨Nat.succ_pos j,q⟩)]
  simp
theorem Side_p (l:Nat):PCall Tryz.prog 201 [.val (.int .i64 (l:Nat))] (.val (.int .i64 (sideN l:Nat))):=by
 rw [sideN_8]
 refine Zc Tryz.func201 U (by kernel_rfl) U (Wc U) ?_
 refine Qe ?_
 refine QU ?_
 refine Qz ?_;intro c4 h4
 refine Qa ?_
 obtain ⟨rfl,g4⟩|⟨rfl,g4⟩:=Za h4
 ·refine QaP ?_
  refine Qg ?_;intro c6 h6
  refine Qa ?_
  obtain ⟨rfl,g6⟩|⟨rfl,g6⟩:=Za h6
  ·refine QV ?_
   refine Qo ?_
   exact Ze U U (Xu _) by4 ⟨by rw [if_neg g4,if_neg g6],U⟩
  refine QD ?_
  exact Ze U U (Xu _) by4 ⟨by rw [if_neg g4,if_pos g6],U⟩
 refine QD ?_
 exact Ze U U (Xu _) by4 ⟨by rw [if_pos g4],U⟩
theorem Clash_p (ops:List Tok) (h:ops.length≤200000):PCall Tryz.prog 162 [.seq 1 (strs (ops.map Tok.t))] (.val (.int .i64 (clashP ops))):=by
 have hl:(strs (ops.map Tok.t)).length=ops.length:=by simp [strs]
 have hC:clashP ops=clashL (lvT ops) (ops.length - 0) 0:=rfl
 generalize clashP ops=r at *
 refine Zc Tryz.func162 U (by kernel_rfl) U (Wc U) ?_
 refine Qe ?_
 refine Qae ?_
 apply Zu (rg [(1,41)]) (σ:=Nat) (fun zz=>match zz with|k=>[(3,.val (.int .i64 k))]) (fun zz=>match zz with|k=>k≤ops.length∧r=clashL (lvT ops) (ops.length - k) k) (fun zz=>match zz with|k=>ops.length - k) (0)
 ·repeat' (first|exact Wf|apply Wd rfl|apply We rfl)
 ·exact ⟨Nat.zero_le _,hC⟩
 ·exact by5
 rintro k hI
 try dsimp only [List.cons_append,List.nil_append] at hI ⊢
 obtain ⟨h1,hu⟩:=hI
 refine QcV ?_;intro n7
 refine Qg ?_;intro c8 h8
 refine Qa ?_
 obtain ⟨rfl,g8⟩|⟨rfl,g8⟩:=Za h8
 ·refine Qad ?_
  rw [show ops.length - k=0 by omega,clashL] at hu;exact Ze rfl rfl (Xu _) by4 ⟨by rw [hu],rfl⟩
 refine Qk ?_
 refine Q2 ?_
 obtain ⟨d,hd⟩:∃ d,ops.length - k=d+1:=⟨ops.length - k - 1,by omega⟩
 rw [hd,clashL] at hu
 have hd2:d=ops.length - (k+1):=by omega
 rw [hd2] at hu
 refine Q8 ?_
 refine Zb 13 U U U (Zh U te_44 U (.seq _ _) U U (strs_at (ops:=ops) (i:=k) by17) ?_)
 refine QaG ?_
 refine Zb 15 U U U (Zd (xs:=[.tmp 14]) U U (Level_at ops k) by2 ?_)
 refine QP ?_;intro c16 h16
 refine Qa ?_
 obtain ⟨rfl,g16⟩|⟨rfl,g16⟩:=Za h16
 ·refine Qau ?_
  refine Qay ?_
  refine Qcc ?_
  apply Zu (rg [(1,1),(4,1),(19,12)]) (σ:=Nat) (fun zz=>match zz with|j=>[(4,.val (.int .i64 ((j:Int) - 1)))]) (fun zz=>match zz with|j=>j≤k∧backL (lvT ops) k=backL (lvT ops) j) (fun zz=>match zz with|j=>j) (k)
  ·repeat' (first|exact Wf|apply Wd rfl|apply We rfl)
  ·exact ⟨Nat.le_refl _,U⟩
  ·exact by5
  rintro j hI
  try dsimp only [List.cons_append,List.nil_append] at hI ⊢
  obtain ⟨h2,hb⟩:=hI
  refine QaJ ?_
  refine Zw 28 (0<j∧4<lvT ops (j - 1)) ?_ _ _ U ?_
  ·skip
   refine QbG ?_;intro c20 h20
   refine Qb ?_
   obtain ⟨rfl,g20⟩|⟨rfl,g20⟩:=Za h20
   ·skip
    refine Qcz ?_
    refine Wa U ?_ by6 by4
    first|(simp_all;done)|(simp_all;omega)|grind
   skip
   refine QaM ?_
   refine Qhh ?_
   refine Qfb ?_
   refine Zo 26 U U U U U (Zd (xs:=[.tmp 25]) U U (Level_at ops (j - 1)) by2 ?_)
   refine Qcp ?_;intro c27 h27
   refine Qm ?_
   refine Wa U ?_ by6 by4
   first|(simp_all;done)|(simp_all;omega)|grind
  intro c28 h28
  refine Qc ?_
  obtain ⟨rfl,g28⟩|⟨rfl,g28⟩:=Za h28
  ·refine Qag ?_
   refine Zw 40 (0<j∧lvT ops (j - 1)=4) ?_ _ _ U ?_
   ·skip
    refine QbG ?_;intro c32 h32
    refine Qb ?_
    obtain ⟨rfl,g32⟩|⟨rfl,g32⟩:=Za h32
    ·skip
     refine Qcz ?_
     refine Wa U ?_ by6 by4
     first|(simp_all;done)|(simp_all;omega)|grind
    skip
    refine QaM ?_
    refine Qhh ?_
    refine Qfb ?_
    refine Zo 38 U U U U U (Zd (xs:=[.tmp 37]) U U (Level_at ops (j - 1)) by2 ?_)
    refine Qak ?_;intro c39 h39
    refine Qm ?_
    refine Wa U ?_ by6 by4
    first|(simp_all;done)|(simp_all;omega)|grind
   intro c40 h40
   refine Qc ?_
   obtain ⟨rfl,g40⟩|⟨rfl,g40⟩:=Za h40
   ·refine QL ?_
    have hu2:r=clashL (lvT ops) (ops.length - (k+1)) (k+1):=by
     first
      |(rw [if_neg (fun q=>g40 ((back_eq g28).1 (by rw [← hb];exact q.2)))] at hu;exact hu)
      |(rw [if_neg (fun q=>g16 by17)] at hu;exact hu)
    exact ⟨k+1,⟨by omega,hu2⟩,by show ops.length - (k+1)<ops.length - k;omega,Xy U (Le.inteq by17) by5,by4⟩
   refine QaY ?_
   rw [if_pos ⟨by omega,by rw [hb];exact (back_eq g28).2 g40⟩] at hu;exact Ze rfl rfl (Xu _) by4 ⟨by rw [hu],rfl⟩
  refine Qbk ?_
  obtain ⟨j,rfl⟩:∃ j',j=j'+1:=⟨j - 1,by omega⟩
  simp only [Nat.add_sub_cancel] at g28
  rw [backL,if_pos g28.2] at hb
  refine Qh ?_
  refine Qay ?_
  refine Qbl ?_
  exact ⟨j,⟨by omega,hb⟩,Nat.lt_succ_self j,Xy U (Le.inteq by17) by5,by4⟩
 refine Q4 ?_
 refine c_exit (x_code (x_here ?_))
 refine Qc ?_
 refine QcR ?_
 refine QbE ?_
 have hu2:r=clashL (lvT ops) (ops.length - (k+1)) (k+1):=by
  first
   |(rw [if_neg (fun q=>g40 ((back_eq g28).1 (by rw [← hb];exact q.2)))] at hu;exact hu)
   |(rw [if_neg (fun q=>g16 by17)] at hu;exact hu)
 exact ⟨k+1,⟨by omega,hu2⟩,by show ops.length - (k+1)<ops.length - k;omega,Xy U (Le.inteq by17) by5,by4⟩
abbrev zEx:List AV:=[.val (.int .i64 0),.val (.string kE),.val (.int .i64 0),.val (.int .i64 0),.val (.string kE),.val (.int .i64 0),.val (.slice none 0 0),.val (.slice none 0 0),.val (.slice none 0 0),.val (.slice none 0 0),.val (.int .i64 0)]
theorem rootB_in (ops:List Tok):∀ (f a i lo:Nat),lo≤a→a<i→lo≤rootB ops f a i∧rootB ops f a i<i+f
 | 0,a,i,lo,h1,h2=>⟨h1,h2⟩
 | f+1,a,i,lo,h1,h2=>by
  unfold rootB
  split
  ·have:=rootB_in ops f i (i+1) lo by17 (Nat.lt_succ_self i);omega
  have:=rootB_in ops f a (i+1) lo h1 by17;omega
theorem toks_at {ops:List Tok} {i:Nat} (h:i<ops.length):(ops.map Tok.av)[i]?=some ((ops[i]?).getD (tok0 0)).av:=by
 simp [List.getElem?_eq_getElem h]
theorem exs_at {l:List Ex} {i:Nat} (h:i<l.length):(Ex.cellss l)[i]?=some ((l[i]?).getD ex0).cells:=by
 rw [Ex.cellss_map];simp [List.getElem?_eq_getElem h]
theorem Build_one (l:List Ex) (ops:List Tok) (hl:l.length=ops.length+1) (a:Nat) (ha:a≤ops.length):PCall Tryz.prog 163 [.seq 11 (Ex.cellss l),.seq 4 (ops.map Tok.av),.val (.int .i64 a),.val (.int .i64 a)] (.agg ((l[a]?).getD ex0).cells):=by
 have hx:=exs_at (l:=l) (i:=a) by17
 obtain ⟨⟨xk,xs,xn,⟨xtk,xts,xtn,xtl⟩,xks,xal,xbs,xp⟩,e⟩:∃ x,(l[a]?).getD ex0=x:=⟨_,rfl⟩
 rw [e] at hx ⊢
 refine Qhi ?_
 refine Qcl ?_;intro b8
 refine QaB ?_
 refine Qb ?_
 refine Qz ?_;intro c19 h19
 refine Qa ?_
 obtain ⟨rfl,g19⟩|⟨rfl,g19⟩:=Za h19
 ·exact absurd U g19
 refine Qb0 ?_
 refine Zb 22 U U U (Zh U te_125 U (.seq _ _) U U (hx) (Zb 23 U U U (Zt (cs':=[_,_,_,_,_,_,_,_,_,_,_]) U Xg U U U ?_)))
 refine Qbg ?_
 refine Qr ?_
 exact Zk (i:=0) U U U Xg U (Xu _) by4 ⟨U,U⟩
theorem Build_two (l:List Ex) (ops:List Tok) (hL:ops.length≤200000) (a b d:Nat) (hab:a<b) (hb:b≤ops.length) (hd:b - a≤d+1)
    (IH:∀ a b,a≤b→b≤ops.length→b - a≤d→PCall Tryz.prog 163 [.seq 11 (Ex.cellss l),.seq 4 (ops.map Tok.av),.val (.int .i64 a),.val (.int .i64 b)] (.agg (buildF l ops d a b).cells)) :
    PCall Tryz.prog 163 [.seq 11 (Ex.cellss l),.seq 4 (ops.map Tok.av),.val (.int .i64 a),.val (.int .i64 b)] (.agg (buildF l ops (d+1) a b).cells):=by
 rw [buildF,if_neg by17]
 obtain ⟨r,hr⟩:∃ r,rootB ops (b - (a+1)) a (a+1)=r:=⟨_,rfl⟩
 have hin:=rootB_in ops (b - (a+1)) a (a+1) a (Nat.le_refl _) (Nat.lt_succ_self a)
 rw [hr] at hin ⊢
 have H1:=IH a r hin.1 by17 by17
 have H2:=IH (r+1) b by17 hb by17
 have hop:=toks_at (ops:=ops) (i:=r) by17
 obtain ⟨⟨xk,xs,xn,⟨xtk,xts,xtn,xtl⟩,xks,xal,xbs,xp⟩,e1⟩:∃ x,buildF l ops d a r=x:=⟨_,rfl⟩
 obtain ⟨⟨yk,ys,yn,⟨ytk,yts,ytn,ytl⟩,yks,yal,ybs,yp⟩,e2⟩:∃ x,buildF l ops d (r+1) b=x:=⟨_,rfl⟩
 obtain ⟨⟨ok,ot,on,oa⟩,e3⟩:∃ x,(ops[r]?).getD (tok0 0)=x:=⟨_,rfl⟩
 rw [e1] at H1 ⊢
 rw [e2] at H2 ⊢
 rw [e3] at hop ⊢
 simp only [Ex.cells,Ty.cells,List.cons_append,List.nil_append,Tok.av] at H1 H2 hop
 clear IH
 obtain ⟨z,hz⟩:∃ z,binE (Tok.mk ok ot on oa) (Ex.mk xk xs xn (Ty.mk xtk xts xtn xtl) xks xal xbs xp) (Ex.mk yk ys yn (Ty.mk ytk yts ytn ytl) yks yal ybs yp)=z:=⟨_,rfl⟩
 rw [hz]
 unfold binE at hz
 simp only [] at hz
 refine Qhi ?_
 refine Qcl ?_;intro b8
 refine QaB ?_
 refine Qb ?_
 refine Qz ?_;intro c19 h19
 refine Qa ?_
 obtain ⟨rfl,g19⟩|⟨rfl,g19⟩:=Za h19
 ·refine Qau ?_
  refine QU ?_
  refine Qa6 ?_
  refine Qab ?_
  apply Zu (rg [(4,4),(9,4),(17,41)]) (σ:=Nat × Nat) (fun zz=>match zz with|(t,i)=>[(9,.val (.int .i64 t)),(10,.val (.int .i64 i))]) (fun zz=>match zz with|(t,i)=>a≤t∧t<i∧i≤b∧rootB ops (b - i) t i=r) (fun zz=>match zz with|(t,i)=>b - i) ((a,a+1))
  ·repeat' (first|exact Wf|apply Wd rfl|apply We rfl)
  ·exact ⟨Nat.le_refl _,Nat.lt_succ_self a,hab,hr⟩
  ·exact by5
  rintro ⟨t,i⟩ hI
  try dsimp only [List.cons_append,List.nil_append] at hI ⊢
  obtain ⟨h1,h2,h3,hu⟩:=hI
  refine QaA ?_
  refine Qg ?_;intro c29 h29
  refine Qa ?_
  obtain ⟨rfl,g29⟩|⟨rfl,g29⟩:=Za h29
  ·refine Qag ?_
   rw [show b - i=0 by omega,rootB] at hu
   subst hu
   refine Q8 ?_
   refine Qai ?_
   refine Zb 62 U U U (Zd (xs:=[.tmp 58,.tmp 59,.tmp 60,.tmp 61]) U U (H1) by2 ?_)
   refine QbA ?_;intro b13
   refine Qbg ?_
   refine QB ?_
   refine Qai ?_
   refine Qa6 ?_
   refine Qb ?_
   refine Zb 68 U U U (Zd (xs:=[.tmp 63,.tmp 64,.tmp 66,.tmp 67]) U U (H2) by2 ?_)
   refine QbA ?_;intro b14
   refine Qbg ?_
   refine QB ?_
   refine Qb ?_
   refine Zb 71 U U U (Zh U te_105 U (.seq _ _) U U (hop) (Zb 72 U U U (Zt (cs':=[_,_,_,_]) U Yi U U U ?_)))
   refine QR ?_;intro b15
   refine Qaw ?_
   refine Qc1 ?_
   refine Qas ?_;intro c75 h75
   refine Qa ?_
   obtain ⟨rfl,g75⟩|⟨rfl,g75⟩:=Za h75
   ·refine QaC ?_
    refine Qn ?_
    refine Qas ?_;intro c84 h84
    refine Qa ?_
    obtain ⟨rfl,g84⟩|⟨rfl,g84⟩:=Za h84
    ·refine QV ?_
     refine Qn ?_
     refine Qn ?_
     refine Zb 95 U U U (Zm (ns:=[0,1,7]) (xs:=[.const (.int .i64 3),.tmp 92,.tmp 94]) U tz_128 U tfl_128 U U U U ?_)
     refine QbA ?_;intro b16
     refine Qbg ?_
     refine Qu ?_
     refine Qcv ?_
     refine Zb 97 U U U (Zs (cs':=[_,_,_,_,_,_,_,_,_,_,_]) (i:=3) U Xg U U U U (Zb 98 U U U (Zf (xs:=[.tmp 96,.tmp 97]) el_125 U U U U U U (Wc U) ?_)))
     refine Qao ?_
     refine Zb 101 U U U (Zm (ns:=[0,4,7]) (xs:=[.const (.int .i64 5),.tmp 98,.tmp 100]) U tz_128 U tfl_128 U U U U ?_)
     refine Qbg ?_
     refine Qu ?_
     refine Qcv ?_
     refine Qe2 ?_
     refine Zb 104 U U U (Zf (xs:=[.tmp 102,.tmp 103]) el_125 U U U U U U (Wc U) ?_)
     refine Qao ?_
     refine Zb 107 U U U (Zm (ns:=[0,4,7]) (xs:=[.const (.int .i64 5),.tmp 104,.tmp 106]) U tz_128 U tfl_128 U U U U ?_)
     refine Qhj ?_
     refine Qr ?_
     rw [if_neg g75,if_neg g84] at hz;subst hz;exact Zk (i:=4) rfl rfl rfl Xg rfl by1 by4 ⟨rfl,rfl⟩
    refine Qq ?_
    refine Qe2 ?_
    refine Qf1 ?_
    refine Zb 87 U U U (Zf (xs:=[.tmp 85,.tmp 86]) el_125 U U U U U U (Wc U) ?_)
    refine Qn ?_
    refine Zb 90 U U U (Zm (ns:=[0,4,7]) (xs:=[.const (.int .i64 11),.tmp 87,.tmp 89]) U tz_128 U tfl_128 U U U U ?_)
    refine QeF ?_
    refine Qr ?_
    rw [if_neg g75,if_pos g84] at hz;subst hz;exact Zk (i:=3) rfl rfl rfl Xg rfl by1 by4 ⟨rfl,rfl⟩
   refine Qq ?_
   refine Qe2 ?_
   refine Qf1 ?_
   refine Zb 78 U U U (Zf (xs:=[.tmp 76,.tmp 77]) el_125 U U U U U U (Wc U) ?_)
   refine Qn ?_
   refine Zb 81 U U U (Zm (ns:=[0,4,7]) (xs:=[.const (.int .i64 10),.tmp 78,.tmp 80]) U tz_128 U tfl_128 U U U U ?_)
   refine QeF ?_
   refine Qr ?_
   rw [if_pos g75] at hz;subst hz;exact Zk (i:=3) rfl rfl rfl Xg rfl by1 by4 ⟨rfl,rfl⟩
  refine QaV ?_
  refine Q0 ?_
  refine Qb ?_
  refine Zb 34 U U U (Zh U te_105 U (.seq _ _) U U (toks_at (ops:=ops) (i:=t) by17) ?_)
  refine Qd ?_
  refine Zb 37 U U U (Zd (xs:=[.tmp 36]) U U (Level_at ops t) by2 ?_)
  refine Qbb ?_
  refine Zb 40 U U U (Zh U te_105 U (.seq _ _) U U (toks_at (ops:=ops) (i:=i) by17) ?_)
  refine Qd ?_
  refine Zb 43 U U U (Zd (xs:=[.tmp 42]) U U (Level_at ops i) by2 ?_)
  refine QG ?_
  refine Zw 56 (lvT ops i<lvT ops t∨(lvT ops i=lvT ops t∧sideN (lvT ops t)=1)) ?_ _ _ U ?_
  ·skip
   refine Qai ?_
   refine Qg ?_;intro c46 h46
   refine Qb ?_
   obtain ⟨rfl,g46⟩|⟨rfl,g46⟩:=Za h46
   ·skip
    refine QaM ?_
    refine Qak ?_;intro c50 h50
    refine Qf ?_
    obtain ⟨rfl,g50⟩|⟨rfl,g50⟩:=Za h50
    ·skip
     refine Qah ?_
     refine Qaz ?_
     refine Wa U ?_ by6 by4
     clear H1 H2;first|(simp_all;done)|(simp_all;omega)|grind
    skip
    refine Qf ?_
    refine Zo 53 U U U U U (Zd (xs:=[.tmp 52]) U U (Side_p (lvT ops t)) by2 ?_)
    refine Qak ?_;intro c54 h54
    refine Qaz ?_
    refine Wa U ?_ by6 by4
    clear H1 H2;first|(simp_all;done)|(simp_all;omega)|grind
   skip
   refine Qx ?_
   refine QaS ?_
   refine QaS ?_
   refine QaS ?_
   refine QbO ?_
   refine Qm ?_
   refine Wa U ?_ by6 by4
   clear H1 H2;first|(simp_all;done)|(simp_all;omega)|grind
  intro c56 h56
  refine Qc ?_
  obtain ⟨rfl,g56⟩|⟨rfl,g56⟩:=Za h56
  ·refine Qbr ?_
   obtain ⟨f,hf⟩:∃ f,b - i=f+1:=⟨b - i - 1,by omega⟩
   rw [hf,rootB] at hu
   have hf2:f=b - (i+1):=by omega
   rw [hf2] at hu
   refine QcR ?_
   refine QbE ?_
   first
   |(rw [if_pos g56] at hu;exact ⟨(i,i+1),⟨by show a≤i;omega,Nat.lt_succ_self i,by show i+1≤b;omega,hu⟩,by show b - (i+1)<b - i;omega,Xy rfl (Xu _) (Xy rfl (Le.inteq by17) by5),by4⟩)
   |(rw [if_neg g56] at hu;exact ⟨(t,i+1),⟨h1,by show t<i+1;omega,by show i+1≤b;omega,hu⟩,by show b - (i+1)<b - i;omega,Xy rfl (Xu _) (Xy rfl (Le.inteq by17) by5),by4⟩)
  refine Q4 ?_
  refine Qh ?_
  refine Qcw ?_
  refine go_blk ?_
  refine Qc ?_
  obtain ⟨f,hf⟩:∃ f,b - i=f+1:=⟨b - i - 1,by omega⟩
  rw [hf,rootB] at hu
  have hf2:f=b - (i+1):=by omega
  rw [hf2] at hu
  refine QcR ?_
  refine QbE ?_
  first
  |(rw [if_pos g56] at hu;exact ⟨(i,i+1),⟨by show a≤i;omega,Nat.lt_succ_self i,by show i+1≤b;omega,hu⟩,by show b - (i+1)<b - i;omega,Xy rfl (Xu _) (Xy rfl (Le.inteq by17) by5),by4⟩)
  |(rw [if_neg g56] at hu;exact ⟨(t,i+1),⟨h1,by show t<i+1;omega,by show i+1≤b;omega,hu⟩,by show b - (i+1)<b - i;omega,Xy rfl (Xu _) (Xy rfl (Le.inteq by17) by5),by4⟩)
 omega
theorem Build_c (l:List Ex) (ops:List Tok) (hl:l.length=ops.length+1) (hL:ops.length≤200000):∀ (d a b:Nat),a≤b→b≤ops.length→b - a≤d→PCall Tryz.prog 163 [.seq 11 (Ex.cellss l),.seq 4 (ops.map Tok.av),.val (.int .i64 a),.val (.int .i64 b)] (.agg (buildF l ops d a b).cells)
 | 0,a,b,h1,h2,h3=>by
  obtain rfl:a=b:=by omega
  exact Build_one l ops hl a h2
 | d+1,a,b,h1,h2,h3=>by
  by_cases h:a=b
  ·subst h
   rw [buildF,if_pos rfl]
   exact Build_one l ops hl a h2
  exact Build_two l ops hL a b d by17 h2 h3 (Build_c l ops hl hL d)
def ExC (b:Nat) (L:List Tok) (n:Nat) (E:PS→Ex × PS):Prop:=∀ q,POk L n q→MCall Tryz.prog 105 [.ptr b 0] (.loc b (psC L q)) (.agg (E q).1.cells) (.loc b (psC L (E q).2))
theorem take_prog {L:List Tok} {p:PS} {kind:Int} {s:ByteArray} (hk:kind≠0) (h:(takeP L p kind s).2.e=0):takeP L p kind s=(nxt L p,stepP p)∧p.e=0∧p.at_<L.length:=by
 unfold takeP at h ⊢
 by_cases q:p.e≠0
 ·rw [if_pos q] at h;exact absurd h q
 rw [if_neg q] at h ⊢
 by_cases q2:(kind<6∧(nxt L p).k≠kind)∨(6≤kind∧((nxt L p).k<6∨(nxt L p).t≠s))
 ·rw [if_pos q2] at h;exact absurd h (fail_ne by16)
 rw [if_neg q2];exact ⟨rfl,Xn by17⟩
theorem nxt_ok {L:List Tok} {p:PS} (h:(nxt L p).k≠0):p.e=0:=(Xn h).1
theorem bind_c (b:Nat) (L:List Tok) (hL:L.length≤100000) (n:Nat) (E:PS→Ex × PS) (HE:ExC b L n E) (p:PS) (k:POk L n p):MCall Tryz.prog 60 [.ptr b 0] (.loc b (psC L p)) (.agg (bindG L E p).1.cells) (.loc b (psC L (bindG L E p).2)):=by
 have H1:=pName_c b L hL n p k
 have k1:=(name_adv k).ok k
 have H2:=take_c b L hL _ k1.1 7 kEq
 have k2:=(Zn (kind:=7) (s:=kEq) by16 k1).ok k1
 have H3:=HE _ k2
 obtain ⟨r,hr⟩:∃ r,bindG L E p=r:=⟨_,rfl⟩
 rw [hr]
 unfold bindG at hr
 obtain ⟨⟨⟨tk,tt,tn,ta⟩,p1⟩,e1⟩:∃ r,nameP L p=r:=⟨_,rfl⟩
 rw [e1] at H1 H2 H3 hr
 obtain ⟨⟨u2,p2⟩,e2⟩:∃ r,takeP L p1 7 kEq=r:=⟨_,rfl⟩
 simp only [] at H2 H3 hr
 rw [e2] at H2 H3 hr
 simp only [] at H2 H3 hr
 obtain ⟨⟨⟨xk,xs,xn,⟨xtk,xts,xtn,xtl⟩,xks,xal,xbs,xp⟩,p3⟩,e3⟩:∃ r,E p2=r:=⟨_,rfl⟩
 rw [e3] at H3 hr
 simp only [Ex.cells,Ty.cells,List.cons_append,List.nil_append,Tok.av] at H1 H3 hr
 subst hr
 refine Zc Tryz.func60 U (by kernel_rfl) U (Wc U) ?_
 refine Qe ?_
 refine Zb 2 U U U (Yb (cs':=[_,_,_,_,_,_,_,_,_,_,_,_,_]) U tz_130 U U ?_);intro b2
 refine QB ?_
 refine Zb 5 U U U (Zl (xs:=[.tmp 4]) (i:=1) U U U (H1) by2 ?_)
 refine QR ?_;intro b3
 refine Qaw ?_
 refine QB ?_
 refine Zb 7 U U U (Zl (xs:=[.tmp 6,.const (.int .i64 7),.const (.string ⟨#[61]⟩)]) (i:=2) U U U (H2) by2 ?_)
 refine Qy ?_
 refine Yh [0,1,2,4,5,3,6,7] [3,7] [[],[0],[],[2],[],[4],[0,1,2,3,4,5],[0,1,2,3,4,5,6]] Yx U ?_
 refine Qa7 ?_
 refine Qw ?_
 refine Qa7 ?_
 refine Yc 2 (i:=3) U U U U U (Zl (xs:=[.tmp 10]) (i:=0) U U U (H3) by2 ⟨_,U,?_⟩)
 refine Zi 14 (none) (i:=6) U U U U U (Zm (ns:=[0,1,2]) (xs:=[.tmp 9,.tmp 11,.tmp 13]) U tz_130 U tfl_130 U U U U ⟨U,U⟩) ?_
 refine Yc 1 (i:=7) U U U U U (Zp (cs':=[_,_,_,_,_,_,_,_,_,_,_,_,_]) (i:=0) U ts_130 U U U U U (Wc U) U ⟨_,U,?_⟩)
 show AGo _ _ _ _ _ _ _
 refine QI ?_
 exact Zk (i:=1) U U U ta_130 U (Xu _) (Xr _ (Xr _ (Xt U))) ⟨U,U⟩
theorem lambda_c (b:Nat) (L:List Tok) (hL:L.length≤100000) (n:Nat) (E:PS→Ex × PS) (HE:ExC b L n E):∀ (f:Nat) (p:PS) (a:Int),POk L n p→L.length - p.at_<f→MCall Tryz.prog 198 [.ptr b 0,.val (.int .i64 a)] (.loc b (psC L p)) (.agg (lambdaG L E f p a).1.cells) (.loc b (psC L (lambdaG L E f p a).2))
 | 0,p,a,k,h=>by omega
 | f+1,p,a,k,h=>by
  have H1:=take_c b L hL _ k.1 1 kE
  have k1:=(Zn (kind:=1) (s:=kE) by16 k).ok k
  have hp1:=take_prog (L:=L) (p:=p) (kind:=1) (s:=kE) by16
  obtain ⟨r,hr⟩:∃ r,lambdaG L E (f+1) p a=r:=⟨_,rfl⟩
  rw [hr]
  rw [lambdaG] at hr
  obtain ⟨⟨⟨tk,tt,tn,ta⟩,p1⟩,e1⟩:∃ r,takeP L p 1 kE=r:=⟨_,rfl⟩
  rw [e1] at H1 k1 hr hp1
  simp only [Tok.av] at H1 k1 hr hp1
  have HN:=next_c b L p1
  obtain ⟨⟨qk,qt,qn,qa⟩,e4⟩:∃ r,nxt L p1=r:=⟨_,rfl⟩
  have hn1:=nxt_ok (L:=L) (p:=p1)
  rw [e4] at HN hr hn1
  simp only [Tok.av] at HN hr hn1
  have H2:=take_c b L hL p1 k1.1 7 kArrow
  have k2:=(Zn (kind:=7) (s:=kArrow) by16 k1).ok k1
  have H3:=HE _ k2
  have IH:qk=1→MCall Tryz.prog 198 [.ptr b 0,.val (.int .i64 qa)] (.loc b (psC L p1)) (.agg (lambdaG L E f p1 qa).1.cells) (.loc b (psC L (lambdaG L E f p1 qa).2)):=fun q=>by
   have h1:=hp1 (hn1 by17)
   have h2:p1=stepP p:=by have:=h1.1;simp only [Prod.mk.injEq] at this;exact this.2
   refine lambda_c b L hL n E HE f p1 qa k1 ?_
   have h3:=h1.2.2
   rw [h2]
   show L.length - (p.at_+1)<f
   omega
  obtain ⟨⟨⟨yk,ys,yn,⟨ytk,yts,ytn,ytl⟩,yks,yal,ybs,yp⟩,p4⟩,e5⟩:∃ r,lambdaG L E f p1 qa=r:=⟨_,rfl⟩
  rw [e5] at IH hr
  obtain ⟨⟨⟨xk,xs,xn,⟨xtk,xts,xtn,xtl⟩,xks,xal,xbs,xp⟩,p3⟩,e3⟩:∃ r,E (takeP L p1 7 kArrow).2=r:=⟨_,rfl⟩
  rw [e3] at H3 hr
  simp only [Ex.cells,Ty.cells,List.cons_append,List.nil_append] at IH H3 hr
  clear hp1 hn1
  refine Zc Tryz.func198 U (by kernel_rfl) U (Wc U) ?_
  refine Qcl ?_;intro b4
  refine QB ?_
  refine Zb 8 U U U (Zl (xs:=[.tmp 7,.const (.int .i64 1),.const (.string ⟨#[]⟩)]) (i:=1) U U U (H1) by2 ?_)
  refine QR ?_;intro b5
  refine Qaw ?_
  refine Qbw ?_
  refine Qb ?_
  refine Zb 12 U U U (Zm (ns:=[0,1,7]) (xs:=[.const (.int .i64 6),.tmp 10,.tmp 11]) U tz_128 U tfl_128 U U U U ?_)
  refine QbA ?_;intro b6
  refine Qbg ?_
  refine QaB ?_
  refine Zb 14 U U U (Yq (xs:=[.tmp 13]) [3] U U U (HN) by2 ?_)
  refine Qd5 ?_
  refine Qz ?_;intro c16 h16
  refine Qa ?_
  obtain ⟨rfl,g16⟩|⟨rfl,g16⟩:=Za h16
  ·refine Qau ?_
   refine Zb 29 U U U (Zl (xs:=[.tmp 28,.const (.int .i64 7),.const (.string ⟨#[45,62]⟩)]) (i:=3) U U U (H2) by2 ?_)
   refine Qy ?_
   refine Qck ?_
   refine Yc 3 (i:=3) U U U U U (Zl (xs:=[.tmp 32]) (i:=0) U U U (H3) by2 ⟨_,U,?_⟩)
   refine Zi 34 (none) (i:=4) U U U U U (Zf (xs:=[.tmp 33]) el_125 U U U U U U (Wc U) ⟨U,U⟩) ?_
   refine Xa (i:=5) U U U (op_append_nil el_125 U U U (.seq _ _) by7 (fun u35=>⟨_,U,?_⟩))
   refine QW ?_
   refine Qe3 ?_
   show AGo _ _ _ _ _ _ _
   refine Qdy ?_
   refine Qcv ?_
   refine Qd6 ?_
   refine Qr ?_
   rw [if_neg g16] at hr;subst hr;exact Zk (i:=2) rfl rfl rfl Xg rfl by1 (Xr _ (Xr _ (Xr _ (Xq _ (Xp _))))) ⟨rfl,rfl⟩
  refine QM ?_
  refine Yh [0,1,2,3,4,5,6,7,8,9,10] [6,8,10] [[],[0],[],[],[3],[3,4],[2,3,4,5],[2,3,4,5,6],[0,1,2,3,4,5,6,7],[0,1,2,3,4,5,6,7,8],[0,1,2,3,4,5,6,7,8,9]] Yx U ?_
  refine Qa7 ?_
  refine Qw ?_
  refine Qw ?_
  refine Zi 21 (some 3) (i:=4) U U U U U (Yq (xs:=[.tmp 20]) [0] U U U (HN) by2 ⟨U,U⟩) ?_
  refine Zi 22 (none) (i:=5) U U U U U (op_field1 (ft:=3) (fo:=3) U (by kernel_rfl) ta_3 U U ⟨U,U⟩) ?_
  refine Yc 3 (i:=6) U U U U U (Zl (xs:=[.tmp 19,.tmp 22]) (i:=0) U U U (IH g16) by2 ⟨_,U,?_⟩)
  refine Zi 24 (none) (i:=7) U U U U U (Zf (xs:=[.tmp 23]) el_125 U U U U U U (Wc U) ⟨U,U⟩) ?_
  refine Xa (i:=8) U U U (op_append_nil el_125 U U U (.seq _ _) by7 (fun u25=>⟨_,U,?_⟩))
  refine QW ?_
  refine Qe3 ?_
  show AGo _ _ _ _ _ _ _
  refine Qdy ?_
  refine Qcv ?_
  refine Qd6 ?_
  refine Qr ?_
  rw [if_pos g16] at hr;subst hr;exact Zk (i:=2) rfl rfl rfl Xg rfl by1 (Xr _ (Xr _ (Xr _ (Xq _ (Xp _))))) ⟨rfl,rfl⟩
theorem atom_lit (b:Nat) (L:List Tok) (hL:L.length≤100000) (n:Nat) (E:PS→Ex × PS) (p:PS) (k:POk L n p) (h:(nxt L p).k=1∨(nxt L p).k=2∨(nxt L p).k=3∨(nxt L p).k=4):MCall Tryz.prog 199 [.ptr b 0] (.loc b (psC L p)) (.agg (atomG L E p).1.cells) (.loc b (psC L (atomG L E p).2)):=by
 have HN:=next_c b L p
 have hp:=k.1
 have hlt:p.at_<L.length:=(Xn by17).2
 obtain ⟨r,hr⟩:∃ r,atomG L E p=r:=⟨_,rfl⟩
 rw [hr]
 unfold atomG at hr
 obtain ⟨⟨tk,tt,tn,ta⟩,ht⟩:∃ t,nxt L p=t:=⟨_,rfl⟩
 rw [ht] at HN hr h
 simp only [Tok.av] at HN hr h
 refine Qf2 ?_
 refine Qcl ?_;intro b2
 refine QB ?_
 refine Zb 10 U U U (Yq (xs:=[.tmp 9]) [1] U U U (HN) by2 ?_)
 refine QR ?_;intro b3
 refine Qaw ?_
 refine Qbw ?_
 refine Qf3 ?_
 refine QbA ?_;intro b4
 refine Qbg ?_
 refine Qy ?_
 apply c_joink (rg [(1,1),(9,37),(68,1),(81,1),(94,1),(97,1),(110,1)]) (σ:=Int × ByteArray × Int) (fun zz=>match zz with|(kk,ss,nn)=>[]) (fun zz=>match zz with|(kk,ss,nn)=>[.loc b4 [.val (.int .i64 kk),.val (.string ss),.val (.int .i64 nn),.val (.int .i64 0),.val (.string kE),.val (.int .i64 0),.val (.slice none 0 0),.val (.slice none 0 0),.val (.slice none 0 0),.val (.slice none 0 0),.val (.int .i64 ta)],.loc b3 (Tok.mk tk tt tn ta).av,.loc b2 zEx,.loc b (psC L p)]) (fun zz=>match zz with|(kk,ss,nn)=>0<kk∧(Ex.mk kk ss nn ty0 [] [] [] ta,stepP p)=r)
 ·repeat' (first|exact Wf|apply Wd rfl|apply We rfl)
 ·skip
  refine c_block ?_
  refine Ql ?_
  refine Qdm ?_;intro c17 h17
  refine Qj ?_
  obtain ⟨rfl,g17⟩|⟨rfl,g17⟩:=Za h17
  ·refine QcF ?_;intro c25 h25
   refine Qj ?_
   obtain ⟨rfl,g25⟩|⟨rfl,g25⟩:=Za h25
   ·refine QcF ?_;intro c33 h33
    refine Qj ?_
    obtain ⟨rfl,g33⟩|⟨rfl,g33⟩:=Za h33
    ·refine QcF ?_;intro c41 h41
     refine Qj ?_
     obtain ⟨rfl,g41⟩|⟨rfl,g41⟩:=Za h41
     ·omega
     refine QdF ?_
     refine QeG ?_
     refine Qa ?_
     refine Qdt ?_
     refine Qt ?_
     refine Qf4 ?_
     refine Qbc ?_
     first
     |(rw [if_pos g17] at hr;exact ⟨(3,tt,0),⟨by decide,hr⟩,by5,Xt rfl⟩)
     |(rw [if_neg g17,if_pos g25] at hr;exact ⟨(4,tt,0),⟨by decide,hr⟩,by5,Xt rfl⟩)
     |(rw [if_neg g17,if_neg g25,if_pos g33] at hr;exact ⟨(1,kE,tn),⟨by decide,hr⟩,by5,Xt rfl⟩)
     |(rw [if_neg g17,if_neg g25,if_neg g33,if_pos g41] at hr;exact ⟨(2,tt,0),⟨by decide,hr⟩,by5,Xt rfl⟩)
    refine QdF ?_
    refine QeG ?_
    refine Qa ?_
    refine Qdt ?_
    refine Qt ?_
    refine Qhk ?_
    refine Qbc ?_
    first
    |(rw [if_pos g17] at hr;exact ⟨(3,tt,0),⟨by decide,hr⟩,by5,Xt rfl⟩)
    |(rw [if_neg g17,if_pos g25] at hr;exact ⟨(4,tt,0),⟨by decide,hr⟩,by5,Xt rfl⟩)
    |(rw [if_neg g17,if_neg g25,if_pos g33] at hr;exact ⟨(1,kE,tn),⟨by decide,hr⟩,by5,Xt rfl⟩)
    |(rw [if_neg g17,if_neg g25,if_neg g33,if_pos g41] at hr;exact ⟨(2,tt,0),⟨by decide,hr⟩,by5,Xt rfl⟩)
   refine QdF ?_
   refine QeG ?_
   refine Qa ?_
   refine Qdt ?_
   refine Qt ?_
   refine Qf4 ?_
   refine Qbc ?_
   first
   |(rw [if_pos g17] at hr;exact ⟨(3,tt,0),⟨by decide,hr⟩,by5,Xt rfl⟩)
   |(rw [if_neg g17,if_pos g25] at hr;exact ⟨(4,tt,0),⟨by decide,hr⟩,by5,Xt rfl⟩)
   |(rw [if_neg g17,if_neg g25,if_pos g33] at hr;exact ⟨(1,kE,tn),⟨by decide,hr⟩,by5,Xt rfl⟩)
   |(rw [if_neg g17,if_neg g25,if_neg g33,if_pos g41] at hr;exact ⟨(2,tt,0),⟨by decide,hr⟩,by5,Xt rfl⟩)
  refine QdF ?_
  refine QeG ?_
  refine Qa ?_
  refine Qdt ?_
  refine Qt ?_
  refine Qf4 ?_
  refine Qbc ?_
  first
  |(rw [if_pos g17] at hr;exact ⟨(3,tt,0),⟨by decide,hr⟩,by5,Xt rfl⟩)
  |(rw [if_neg g17,if_pos g25] at hr;exact ⟨(4,tt,0),⟨by decide,hr⟩,by5,Xt rfl⟩)
  |(rw [if_neg g17,if_neg g25,if_pos g33] at hr;exact ⟨(1,kE,tn),⟨by decide,hr⟩,by5,Xt rfl⟩)
  |(rw [if_neg g17,if_neg g25,if_neg g33,if_pos g41] at hr;exact ⟨(2,tt,0),⟨by decide,hr⟩,by5,Xt rfl⟩)
 rintro ⟨kk,ss,nn⟩ hI
 try dsimp only [List.cons_append,List.nil_append] at hI ⊢
 refine Qbd ?_
 refine Ql ?_
 refine Qn ?_
 refine Qbo ?_;intro c48 h48
 refine Qa ?_
 obtain ⟨rfl,g48⟩|⟨rfl,g48⟩:=Za h48
 ·omega
 refine QaW ?_
 refine Qbq ?_
 refine Qcu ?_
 refine QdD ?_
 refine Qek ?_
 refine Qu ?_
 refine Qcv ?_
 refine Qd6 ?_
 refine Qr ?_
 have h2:=hI.2;subst h2;exact Zk (i:=2) rfl rfl rfl Xg rfl by1 (Xr _ (Xr _ (Xr _ (Xt rfl)))) ⟨rfl,rfl⟩
theorem may_yes {b:Nat} {L:List Tok} (hL:L.length≤100000) {p:PS} {s:ByteArray} (h:isP L p s=true):MCall Tryz.prog 55 [.ptr b 0,.val (.string s)] (.loc b (psC L p)) (.val (.bool true)) (.loc b (psC L (stepP p))) :=
 (may_c b L hL p s).mono (by
  rintro v M' (⟨_,rfl,rfl⟩|⟨q,_,_⟩)
  ·exact ⟨U,U⟩
  exact absurd h q)
theorem may_no {b:Nat} {L:List Tok} (hL:L.length≤100000) {p:PS} {s:ByteArray} (h:¬ isP L p s=true):MCall Tryz.prog 55 [.ptr b 0,.val (.string s)] (.loc b (psC L p)) (.val (.bool false)) (.loc b (psC L p)) :=
 (may_c b L hL p s).mono (by
  rintro v M' (⟨q,_,_⟩|⟨_,rfl,rfl⟩)
  ·exact absurd q h
  exact ⟨U,U⟩)
theorem altsL_err {L:List Tok} {E:PS→Ex × PS} {f:Nat} {p:PS} {acc:List Al} (h:p.e≠0):altsL L E f p acc=(acc,p):=by
 cases f with
 | zero=>rfl
 | succ f=>rw [altsL,if_pos h]
theorem Al.cellss_app' (a b:List Al):Al.cellss (a++b)=Al.cellss a++Al.cellss b:=by simp [Al.cellss_map]
theorem Ex.cellss_app' (a b:List Ex):Ex.cellss (a++b)=Ex.cellss a++Ex.cellss b:=by simp [Ex.cellss_map]
theorem Bi.cellss_app' (a b:List Bi):Bi.cellss (a++b)=Bi.cellss a++Bi.cellss b:=by simp [Bi.cellss_map]
theorem atom_case (b:Nat) (L:List Tok) (hL:L.length≤100000) (n:Nat) (E:PS→Ex × PS) (HE:ExC b L n E) (HA:∀ q,POk L n q→Adv L q (E q).2) (p:PS) (k:POk L n p) (h1:(nxt L p).k≠1) (h2:(nxt L p).k≠2) (h3:(nxt L p).k≠3) (h4:(nxt L p).k≠4) (hc:isP L p kCase=true):MCall Tryz.prog 199 [.ptr b 0] (.loc b (psC L p)) (.agg (caseG L E (nxt L p).a (stepP p)).1.cells) (.loc b (psC L (caseG L E (nxt L p).a (stepP p)).2)):=by
 have HN:=next_c b L p
 have k1:=(Yf k hc).ok k
 have H1:=HE _ k1
 have k2:=(HA _ k1).ok k1
 have H2:=take_c b L hL _ k2.1 6 kOf
 have k3:=(Zn (kind:=6) (s:=kOf) by16 k2).ok k2
 have k4:=(altsL_adv HA (L.length+1) _ [] k3).ok k3
 have H4:=take_c b L hL _ k4.1 6 kEnd
 obtain ⟨r,hr⟩:∃ r,caseG L E (nxt L p).a (stepP p)=r:=⟨_,rfl⟩
 rw [hr]
 unfold caseG at hr
 simp only [] at hr
 obtain ⟨⟨tk,tt,tn,ta⟩,ht⟩:∃ t,nxt L p=t:=⟨_,rfl⟩
 rw [ht] at HN hr h1 h2 h3 h4
 simp only [Tok.av] at HN hr h1 h2 h3 h4
 obtain ⟨⟨⟨xk,xs,xn,⟨xtk,xts,xtn,xtl⟩,xks,xal,xbs,xp⟩,p2⟩,e2⟩:∃ r,E (stepP p)=r:=⟨_,rfl⟩
 rw [e2] at H1 H2 H4 hr k3
 obtain ⟨⟨u3,p3⟩,e3⟩:∃ r,takeP L p2 6 kOf=r:=⟨_,rfl⟩
 simp only [] at H2 H4 hr k3
 rw [e3] at H2 H4 hr k3
 simp only [] at H2 H4 hr k3
 obtain ⟨⟨yl,p4⟩,e4⟩:∃ r,altsL L E (L.length+1) p3 []=r:=⟨_,rfl⟩
 rw [e4] at H4 hr
 simp only [Ex.cells,Ty.cells,List.cons_append,List.nil_append] at H1 H4 hr
 refine Qf2 ?_
 refine Qcl ?_;intro b2
 refine QB ?_
 refine Zb 10 U U U (Yq (xs:=[.tmp 9]) [1] U U U (HN) by2 ?_)
 refine QR ?_;intro b3
 refine Qaw ?_
 refine Qbw ?_
 refine Qf3 ?_
 refine QbA ?_;intro b4
 refine Qbg ?_
 refine QcG ?_
 refine Ql ?_
 refine Qdm ?_;intro c17 h17
 refine Qj ?_
 obtain ⟨rfl,g17⟩|⟨rfl,g17⟩:=Za h17
 ·refine QcF ?_;intro c25 h25
  refine Qj ?_
  obtain ⟨rfl,g25⟩|⟨rfl,g25⟩:=Za h25
  ·refine QcF ?_;intro c33 h33
   refine Qj ?_
   obtain ⟨rfl,g33⟩|⟨rfl,g33⟩:=Za h33
   ·refine QcF ?_;intro c41 h41
    refine Qj ?_
    obtain ⟨rfl,g41⟩|⟨rfl,g41⟩:=Za h41
    ·refine Qbr ?_
     refine Q2 ?_
     refine Ql ?_
     refine Qn ?_
     refine Qbo ?_;intro c48 h48
     refine Qa ?_
     obtain ⟨rfl,g48⟩|⟨rfl,g48⟩:=Za h48
     ·refine QaP ?_
      refine Zb 58 U U U (Zl (xs:=[.tmp 57,.const (.string ⟨#[99,97,115,101]⟩)]) (i:=3) U U U (may_yes hL hc) by2 ?_)
      refine Qa ?_
      refine QdF ?_
      refine QeG ?_
      refine Qy ?_
      refine Qck ?_
      refine Yc 3 (i:=3) U U U U U (Zl (xs:=[.tmp 62]) (i:=0) U U U (H1) by2 ⟨_,U,?_⟩)
      refine Zi 64 (none) (i:=4) U U U U U (Zf (xs:=[.tmp 63]) el_125 U U U U U U (Wc U) ⟨U,U⟩) ?_
      refine Xa (i:=5) U U U (op_append_nil el_125 U U U (.seq _ _) by7 (fun u65=>⟨_,U,?_⟩))
      refine QW ?_
      refine Qe3 ?_
      show AGo _ _ _ _ _ _ _
      refine Qc ?_
      refine Q0 ?_
      refine Zb 68 U U U (Zl (xs:=[.tmp 67,.const (.int .i64 6),.const (.string ⟨#[111,102]⟩)]) (i:=3) U U U (H2) by2 ?_)
      refine Qu ?_
      refine Qcc ?_
      refine Yp 260 16 ?_
      apply Yl (rg [(1,1),(5,2),(9,84),(94,1),(97,1),(110,1)]) (σ:=PS × Nat × List Al × Value × Bool) (fun zz=>match zz with|(q,f,acc,u,mo)=>[(5,.val (.bool mo))]) (fun zz=>match zz with|(q,f,acc,u,mo)=>[.loc b4 [.val (.int .i64 8),.val (.string kE),.val (.int .i64 0),.val (.int .i64 0),.val (.string kE),.val (.int .i64 0),.val (.slice none 0 0),.seq 11 (Ex.cellss [Ex.mk xk xs xn (Ty.mk xtk xts xtn xtl) xks xal xbs xp]),.own u 16 (Al.cellss acc),.val (.slice none 0 0),.val (.int .i64 ta)],.loc b3 (Tok.mk tk tt tn ta).av,.loc b2 zEx,.loc b (psC L q),.own 260 16 u]) (fun zz=>match zz with|(q,f,acc,u,mo)=>POk L n q∧L.length - q.at_<f∧(mo=true→acc.length≤q.at_)∧(if mo=true then altsL L E f q acc else (acc,q))=(yl,p4)) (fun zz=>match zz with|(q,f,acc,u,mo)=>2 * f+(if mo=true then 1 else 0)) ((p3,L.length+1,[],.slice none 0 0,true))
      ·repeat' (first|exact Wf|apply Wd rfl|apply We rfl)
      ·exact ⟨k3,by omega,fun _=>Nat.zero_le _,e4⟩
      ·exact by5
      ·exact (Xs _ (Xw (Xu _) (Xw (Xu _) (Xw (Xu _) (Xw (Xu _) (Xw (Xu _) (Xw (Xu _) (Xw (Xu _) (Xw (Le.own_seq U) (Xw (Le.nilOwn 16) (Xv _)))))))))) (Xq _ (Xq _ (Xq _ (Xr _ (Xo _))))))
      rintro ⟨q,f,acc,u,mo⟩ hI
      try dsimp only [List.cons_append,List.nil_append] at hI ⊢
      obtain ⟨i1,i2,i3,hu⟩:=hI
      have hq1:=i1.1
      refine QaJ ?_
      refine Zw 76 (mo=true∧q.e=0) ?_ _ _ U ?_
      ·skip
       refine Qai ?_
       have h70:(mo=true↔mo=true):=Iff.rfl
       obtain ⟨rfl,g70⟩|⟨rfl,g70⟩:=Za h70
       ·skip
        refine QaH ?_
        refine Wa U ?_ by6 by4
        simp_all;done
       skip
       refine Qf ?_
       refine Qf5 ?_
       refine Qba ?_
       refine QfI ?_
       refine Qak ?_;intro c75 h75
       refine Qm ?_
       refine Wa U ?_ by6 by4
       simp_all;done
      intro c76 h76
      refine Qc ?_
      obtain ⟨rfl,g76⟩|⟨rfl,g76⟩:=Za h76
      ·refine Qag ?_
       have hu2:(acc,q)=(yl,p4):=by
        cases mo with
        | false=>exact hu
        | true=>rw [if_pos rfl,altsL_err (fun e=>g76 ⟨rfl,e⟩)] at hu;exact hu
       simp only [Prod.mk.injEq] at hu2
       obtain ⟨rfl,rfl⟩:=hu2
       refine Qh ?_
       refine Zb 94 U U U (Zl (xs:=[.tmp 93,.const (.int .i64 6),.const (.string ⟨#[101,110,100]⟩)]) (i:=3) U U U (H4) by2 ?_)
       refine Qu ?_
       refine Qcv ?_
       refine Qd6 ?_
       refine Qr ?_
       subst hr;exact Zk (i:=2) rfl rfl rfl Xg rfl by1 (Xr _ (Xr _ (Xr _ (Xq _ (Xp _))))) ⟨rfl,rfl⟩
      refine Qdq ?_
      obtain ⟨rfl,hq0⟩:=g76
      have i3:=i3 rfl
      have hle:(Al.cellss acc).length≤200000:=by rw [Al.cellss_len];omega
      rw [if_pos rfl] at hu
      obtain ⟨f,rfl⟩:∃ f',f=f'+1:=⟨f - 1,by omega⟩
      rw [altsL,if_neg (by rw [hq0];simp)] at hu
      have HP:=patP_c b L hL n q i1
      have l1:=(patP_adv i1).ok i1
      have b1:=(patP_adv i1).1
      have HQ:=take_c b L hL _ l1.1 7 kArrow
      have l2:=(Zn (kind:=7) (s:=kArrow) by16 l1).ok l1
      have b2:=(Zn (kind:=7) (s:=kArrow) by16 l1).1
      have HR:=HE _ l2
      have l3:=(HA _ l2).ok l2
      have b3:=(HA _ l2).1
      obtain ⟨z,hz⟩:∃ z,altG L E q=z:=⟨_,rfl⟩
      rw [hz] at hu
      unfold altG at hz
      obtain ⟨⟨⟨vk,vs,vn,vl,vp⟩,q1⟩,f1⟩:∃ r,patP L q=r:=⟨_,rfl⟩
      rw [f1] at HP HQ HR hz l2 l3 b1 b2 b3
      obtain ⟨⟨u5,q2⟩,f2⟩:∃ r,takeP L q1 7 kArrow=r:=⟨_,rfl⟩
      simp only [] at HQ HR hz l2 l3 b1 b2 b3
      rw [f2] at HQ HR hz l2 l3 b2 b3
      simp only [] at HQ HR hz l2 l3 b1 b2 b3
      obtain ⟨⟨⟨wk,ws,wn,⟨wtk,wts,wtn,wtl⟩,wks,wal,wbs,wp⟩,q3⟩,f3⟩:∃ r,E q2=r:=⟨_,rfl⟩
      rw [f3] at HR hz l3 b3
      simp only [Pa.cells,Ex.cells,Ty.cells,List.cons_append,List.nil_append] at HP HR hz l3 b3
      subst hz
      simp only [] at hu
      have l3a:=l3.1
      refine Qh ?_
      refine Zb 78 U U U (Zl (xs:=[.tmp 77]) (i:=3) U U U (HP) by2 ?_)
      refine Zb 79 U U U (Zm (ns:=[0]) (xs:=[.tmp 78]) U tz_260 U tfl_260 U U U U (Zb 6 U U U (Yb (cs':=[_,_,_,_,_,_,_,_,_,_,_,_,_,_,_,_]) U tz_260 U U ?_)));intro b6
      refine Zr U U (Zp (cs':=[_,_,_,_,_,_,_,_,_,_,_,_,_,_,_,_]) (i:=0) U ts_260 U U U U U (Wc U) U ?_)
      refine QB ?_
      refine Zb 81 U U U (Zl (xs:=[.tmp 80,.const (.int .i64 7),.const (.string ⟨#[45,62]⟩)]) (i:=4) U U U (HQ) by2 ?_)
      refine QB ?_
      refine Zb 83 U U U (Zl (xs:=[.tmp 82]) (i:=4) U U U (HR) by2 ?_)
      refine Qt ?_
      refine Zr U U (Zp (cs':=[_,_,_,_,_,_,_,_,_,_,_,_,_,_,_,_]) (i:=0) U ts_128 U U U U U (Wc U) U ?_)
      refine Qu ?_
      refine Qao ?_
      refine Zb 87 U U U (Zs (cs':=[_,_,_,_,_,_,_,_,_,_,_,_,_,_,_,_]) (i:=0) U ta_260 U U U U (Zb 88 U U U (Zf (xs:=[.tmp 87]) el_126 U U U U U U (Wc U) (Zb 89 U U U (Zv (i:=5) el_126 U U U U (.seq _ _) by7 ?_)))))
      intro u89
      refine Qt ?_
      refine Zr U U (Zp (cs':=[_,_,_,_,_,_,_,_,_,_,_]) (i:=1) U ts_126 U U U U U (Wc U) U ?_)
      refine QdB ?_
      refine Zb 92 U U U (op_mayc (xs:=[.tmp 91,.const (.string ⟨#[124]⟩)]) (i:=4) U U U (may_c b L hL q3 kBar) by2 ?_ ?_)
      ·intro g92
       refine Qbl ?_
       first
       |(rw [if_pos g92] at hu;have l4:=(Yf l3 g92).ok l3;have l5:=(is_lt g92).2;exact ⟨(stepP q3,f,acc++[Al.mk (Pa.mk vk vs vn vl vp) (Ex.mk wk ws wn (Ty.mk wtk wts wtn wtl) wks wal wbs wp)],u89,true),⟨l4,(by show L.length - (q3.at_+1)<f;omega),(fun _=>by show (acc++_).length≤q3.at_+1;rw [List.length_append];simp;omega),hu⟩,(by show 2 * f+1<2 * (f+1)+1;omega),Xy rfl (Xu _) by5,(Xr _ (Xs _ (Xw (Xu _) (Xw (Xu _) (Xw (Xu _) (Xw (Xu _) (Xw (Xu _) (Xw (Xu _) (Xw (Xu _) (Xw (Xu _) (Xw (Wb (by rw [Al.cellss_app'];rfl)) (Xv _)))))))))) (Xq _ (Xq _ (Xt rfl)))))⟩)
       |(rw [if_neg g92] at hu;exact ⟨(q3,f+1,acc++[Al.mk (Pa.mk vk vs vn vl vp) (Ex.mk wk ws wn (Ty.mk wtk wts wtn wtl) wks wal wbs wp)],u89,false),⟨l3,(by show L.length - q3.at_<f+1;omega),(fun h=>by cases h),hu⟩,(by show 2 * (f+1)+0<2 * (f+1)+1;omega),Xy rfl (Xu _) by5,(Xr _ (Xs _ (Xw (Xu _) (Xw (Xu _) (Xw (Xu _) (Xw (Xu _) (Xw (Xu _) (Xw (Xu _) (Xw (Xu _) (Xw (Xu _) (Xw (Wb (by rw [Al.cellss_app'];rfl)) (Xv _)))))))))) (Xq _ (Xq _ (Xt rfl)))))⟩)
      intro g92
      refine Qbl ?_
      first
      |(rw [if_pos g92] at hu;have l4:=(Yf l3 g92).ok l3;have l5:=(is_lt g92).2;exact ⟨(stepP q3,f,acc++[Al.mk (Pa.mk vk vs vn vl vp) (Ex.mk wk ws wn (Ty.mk wtk wts wtn wtl) wks wal wbs wp)],u89,true),⟨l4,(by show L.length - (q3.at_+1)<f;omega),(fun _=>by show (acc++_).length≤q3.at_+1;rw [List.length_append];simp;omega),hu⟩,(by show 2 * f+1<2 * (f+1)+1;omega),Xy rfl (Xu _) by5,(Xr _ (Xs _ (Xw (Xu _) (Xw (Xu _) (Xw (Xu _) (Xw (Xu _) (Xw (Xu _) (Xw (Xu _) (Xw (Xu _) (Xw (Xu _) (Xw (Wb (by rw [Al.cellss_app'];rfl)) (Xv _)))))))))) (Xq _ (Xq _ (Xt rfl)))))⟩)
      |(rw [if_neg g92] at hu;exact ⟨(q3,f+1,acc++[Al.mk (Pa.mk vk vs vn vl vp) (Ex.mk wk ws wn (Ty.mk wtk wts wtn wtl) wks wal wbs wp)],u89,false),⟨l3,(by show L.length - q3.at_<f+1;omega),(fun h=>by cases h),hu⟩,(by show 2 * (f+1)+0<2 * (f+1)+1;omega),Xy rfl (Xu _) by5,(Xr _ (Xs _ (Xw (Xu _) (Xw (Xu _) (Xw (Xu _) (Xw (Xu _) (Xw (Xu _) (Xw (Xu _) (Xw (Xu _) (Xw (Xu _) (Xw (Wb (by rw [Al.cellss_app'];rfl)) (Xv _)))))))))) (Xq _ (Xq _ (Xt rfl)))))⟩)
     exact absurd g48 by16
    exact absurd g41 h4
   exact absurd g33 h3
  exact absurd g25 h2
 exact absurd g17 h1
theorem atom_par (b:Nat) (L:List Tok) (hL:L.length≤100000) (n:Nat) (E:PS→Ex × PS) (HE:ExC b L n E) (HA:∀ q,POk L n q→Adv L q (E q).2) (p:PS) (k:POk L n p) (h1:(nxt L p).k≠1) (h2:(nxt L p).k≠2) (h3:(nxt L p).k≠3) (h4:(nxt L p).k≠4) (hc:¬ isP L p kCase=true) (r:Ex × PS)
    (hr:(if isP L (takeP L p 7 kLP).2 kRP=true then (namE 4 kUnit (nxt L p).a,stepP (takeP L p 7 kLP).2)
     else if (nxt L (takeP L p 7 kLP).2).k=5 then (namE 3 (takeP L (takeP L p 7 kLP).2 5 kE).1.t (nxt L p).a,(takeP L (takeP L (takeP L p 7 kLP).2 5 kE).2 7 kRP).2)
     else annG L (nxt L p).a (E (takeP L p 7 kLP).2))=r):MCall Tryz.prog 199 [.ptr b 0] (.loc b (psC L p)) (.agg r.1.cells) (.loc b (psC L r.2)):=by
 have HN:=next_c b L p
 have H1:=take_c b L hL p k.1 7 kLP
 have k1:=(Zn (kind:=7) (s:=kLP) by16 k).ok k
 obtain ⟨⟨tk,tt,tn,ta⟩,ht⟩:∃ t,nxt L p=t:=⟨_,rfl⟩
 rw [ht] at HN hr h1 h2 h3 h4
 simp only [Tok.av] at HN hr h1 h2 h3 h4
 obtain ⟨⟨u1,p1⟩,e1⟩:∃ r,takeP L p 7 kLP=r:=⟨_,rfl⟩
 rw [e1] at H1 hr k1
 simp only [] at H1 hr k1
 have HN1:=next_c b L p1
 obtain ⟨⟨qk,qt,qn,qa⟩,ht1⟩:∃ t,nxt L p1=t:=⟨_,rfl⟩
 rw [ht1] at HN1 hr
 have H5:=take_c b L hL p1 k1.1 5 kE
 have k5:=(Zn (kind:=5) (s:=kE) by16 k1).ok k1
 have HX:=HE p1 k1
 have kx:=(HA p1 k1).ok k1
 obtain ⟨⟨⟨ok,ot,on,oa⟩,p5⟩,e5⟩:∃ r,takeP L p1 5 kE=r:=⟨_,rfl⟩
 rw [e5] at H5 k5 hr
 obtain ⟨⟨⟨xk,xs,xn,⟨xtk,xts,xtn,xtl⟩,xks,xal,xbs,xp⟩,p2⟩,e2⟩:∃ r,E p1=r:=⟨_,rfl⟩
 rw [e2] at HX kx hr
 unfold annG at hr
 simp only [Tok.av,Ex.cells,Ty.cells,List.cons_append,List.nil_append] at HN1 H5 k5 hr HX kx
 refine Qf2 ?_
 refine Qcl ?_;intro b2
 refine QB ?_
 refine Zb 10 U U U (Yq (xs:=[.tmp 9]) [1] U U U (HN) by2 ?_)
 refine QR ?_;intro b3
 refine Qaw ?_
 refine Qbw ?_
 refine Qf3 ?_
 refine QbA ?_;intro b4
 refine Qbg ?_
 refine QcG ?_
 refine Ql ?_
 refine Qdm ?_;intro c17 h17
 refine Qj ?_
 obtain ⟨rfl,g17⟩|⟨rfl,g17⟩:=Za h17
 ·refine QcF ?_;intro c25 h25
  refine Qj ?_
  obtain ⟨rfl,g25⟩|⟨rfl,g25⟩:=Za h25
  ·refine QcF ?_;intro c33 h33
   refine Qj ?_
   obtain ⟨rfl,g33⟩|⟨rfl,g33⟩:=Za h33
   ·refine QcF ?_;intro c41 h41
    refine Qj ?_
    obtain ⟨rfl,g41⟩|⟨rfl,g41⟩:=Za h41
    ·refine Qbr ?_
     refine Q2 ?_
     refine Ql ?_
     refine Qn ?_
     refine Qbo ?_;intro c48 h48
     refine Qa ?_
     obtain ⟨rfl,g48⟩|⟨rfl,g48⟩:=Za h48
     ·refine QaP ?_
      refine Zb 58 U U U (Zl (xs:=[.tmp 57,.const (.string ⟨#[99,97,115,101]⟩)]) (i:=3) U U U (may_no hL hc) by2 ?_)
      refine Qa ?_
      refine Qau ?_
      refine Zb 97 U U U (Zl (xs:=[.tmp 96,.const (.int .i64 7),.const (.string ⟨#[40]⟩)]) (i:=3) U U U (H1) by2 ?_)
      refine QaB ?_
      refine Zb 99 U U U (op_mayc (xs:=[.tmp 98,.const (.string ⟨#[41]⟩)]) (i:=3) U U U (may_c b L hL p1 kRP) by2 ?_ ?_)
      ·intro g99
       refine Qa ?_
       refine Qq ?_
       refine Qao ?_
       refine Zb 102 U U U (Zm (ns:=[0,1,7]) (xs:=[.const (.int .i64 4),.const (.string ⟨#[85,110,105,116]⟩),.tmp 101]) U tz_128 U tfl_128 U U U U ?_)
       refine Qd6 ?_
       refine Qr ?_
       rw [if_pos g99] at hr;subst hr;exact Zk (i:=2) rfl rfl rfl Xg rfl by1 (Xr _ (Xr _ (Xr _ (Xt rfl)))) ⟨rfl,rfl⟩
      intro g99
      refine Qa ?_
      refine QaP ?_
      refine Zb 104 U U U (Yq (xs:=[.tmp 103]) [3] U U U (HN1) by2 ?_)
      refine Qd5 ?_
      refine Qz ?_;intro c106 h106
      refine Qa ?_
      obtain ⟨rfl,g106⟩|⟨rfl,g106⟩:=Za h106
      ·refine Qau ?_
       refine Zb 117 U U U (Zl (xs:=[.tmp 116]) (i:=3) U U U (HX) by2 ?_)
       refine QbA ?_;intro b8
       refine Qbg ?_
       refine Qdr ?_
       rw [if_neg g99,if_neg g106] at hr
       refine Qh ?_
       refine Zb 119 U U U (op_mayc (xs:=[.tmp 118,.const (.string ⟨#[58]⟩)]) (i:=4) U U U (may_c b L hL p2 kColon) by2 ?_ ?_)
       ·intro g119
        refine Qa ?_
        refine Q4 ?_
        have ka:=(Yf kx g119).ok kx
        have HT:=typeP_c b L hL n _ ka
        have k8:=(typeP_adv ka).ok ka
        have H8:=take_c b L hL _ k8.1 7 kRP
        rw [if_pos g119] at hr
        obtain ⟨⟨⟨wk,ws,wn,wl⟩,p3⟩,e3⟩:∃ r,typeP L (stepP p2)=r:=⟨_,rfl⟩
        rw [e3] at HT H8 hr
        simp only [Ty.cells] at HT H8 hr
        refine Yh [0,2,3,4,5,1,6,7] [1,7] [[],[0],[],[2],[],[4],[0,1,2,3,4,5],[0,1,2,3,4,5,6]] Yx U ?_
        refine Qw ?_
        refine Qhl ?_
        refine Zi 123 (none) (i:=3) U U U U U (Zf (xs:=[.tmp 122]) el_125 U U U U U U (Wc U) ⟨U,U⟩) ?_
        refine QW ?_
        refine Zi 125 (some 2) (i:=5) U U U U U (Xl (i:=0) U ta_3 U U U ⟨U,U⟩) ?_
        refine Yc 4 (i:=1) U U U U U (Zl (xs:=[.tmp 120]) (i:=0) U U U (HT) by2 ⟨_,U,?_⟩)
        refine Zi 126 (none) (i:=6) U U U U U (Zm (ns:=[0,3,4,7]) (xs:=[.const (.int .i64 12),.tmp 121,.tmp 123,.tmp 125]) U tz_128 U tfl_128 U U U U ⟨U,U⟩) ?_
        refine Qhm ?_
        show AGo _ _ _ _ _ _ _
        refine Qbd ?_
        first|have H9:=H8|have H9:=take_c b L hL p2 kx.1 7 kRP
        refine Qh ?_
        refine Zb 128 U U U (Zl (xs:=[.tmp 127,.const (.int .i64 7),.const (.string ⟨#[41]⟩)]) (i:=4) U U U (H9) by2 ?_)
        refine Qu ?_
        refine Qcv ?_
        refine QeF ?_
        refine Qr ?_
        subst hr;exact Zk (i:=3) rfl rfl rfl Xg rfl by1 (Xr _ (Xr _ (Xr _ (Xr _ (Xt rfl))))) ⟨rfl,rfl⟩
       intro g119
       refine Qa ?_
       refine Qp ?_
       first|have H9:=H8|have H9:=take_c b L hL p2 kx.1 7 kRP
       refine Qh ?_
       refine Zb 128 U U U (Zl (xs:=[.tmp 127,.const (.int .i64 7),.const (.string ⟨#[41]⟩)]) (i:=4) U U U (H9) by2 ?_)
       refine Qu ?_
       refine Qcv ?_
       refine QeF ?_
       refine Qr ?_
       rw [if_neg g119] at hr;subst hr;exact Zk (i:=3) rfl rfl rfl Xg rfl by1 (Xr _ (Xr _ (Xr _ (Xr _ (Xt rfl))))) ⟨rfl,rfl⟩
      refine QaW ?_
      refine Zb 108 U U U (Zl (xs:=[.tmp 107,.const (.int .i64 5),.const (.string ⟨#[]⟩)]) (i:=3) U U U (H5) by2 ?_)
      refine QR ?_;intro b7
      refine Qaw ?_
      refine QB ?_
      refine Zb 110 U U U (Zl (xs:=[.tmp 109,.const (.int .i64 7),.const (.string ⟨#[41]⟩)]) (i:=4) U U U (take_c b L hL p5 k5.1 7 kRP) by2 ?_)
      refine Qbw ?_
      refine Qb2 ?_
      refine Zb 115 U U U (Zm (ns:=[0,1,7]) (xs:=[.const (.int .i64 3),.tmp 112,.tmp 114]) U tz_128 U tfl_128 U U U U ?_)
      refine QeF ?_
      refine Qr ?_
      rw [if_neg g99,if_pos g106] at hr;subst hr;exact Zk (i:=3) rfl rfl rfl Xg rfl by1 (Xr _ (Xr _ (Xr _ (Xr _ (Xt rfl))))) ⟨rfl,rfl⟩
     exact absurd g48 by16
    exact absurd g41 h4
   exact absurd g33 h3
  exact absurd g25 h2
 exact absurd g17 h1
theorem atom_c (b:Nat) (L:List Tok) (hL:L.length≤100000) (n:Nat) (E:PS→Ex × PS) (HE:ExC b L n E) (HA:∀ q,POk L n q→Adv L q (E q).2) (p:PS) (k:POk L n p):MCall Tryz.prog 199 [.ptr b 0] (.loc b (psC L p)) (.agg (atomG L E p).1.cells) (.loc b (psC L (atomG L E p).2)):=by
 by_cases h1:(nxt L p).k=1
 ·exact atom_lit b L hL n E p k (.inl h1)
 by_cases h2:(nxt L p).k=2
 ·exact atom_lit b L hL n E p k (.inr (.inl h2))
 by_cases h3:(nxt L p).k=3
 ·exact atom_lit b L hL n E p k (.inr (.inr (.inl h3)))
 by_cases h4:(nxt L p).k=4
 ·exact atom_lit b L hL n E p k (.inr (.inr (.inr h4)))
 by_cases h5:isP L p kCase=true
 ·rw [atomG,if_neg h1,if_neg h2,if_neg h3,if_neg h4,if_pos h5];exact atom_case b L hL n E HE HA p k h1 h2 h3 h4 h5
 exact atom_par b L hL n E HE HA p k h1 h2 h3 h4 h5 _ (by rw [atomG,if_neg h1,if_neg h2,if_neg h3,if_neg h4,if_neg h5])
theorem may_eq {b:Nat} {L:List Tok} (hL:L.length≤100000) {p:PS} {s:ByteArray} {c:Bool} (h:isP L p s=c):MCall Tryz.prog 55 [.ptr b 0,.val (.string s)] (.loc b (psC L p)) (.val (.bool c)) (.loc b (psC L (if c=true then stepP p else p))):=by
 cases c with
 | true=>exact may_yes hL h
 | false=>exact may_no hL (by rw [h];simp)
theorem operand_lam (b:Nat) (L:List Tok) (hL:L.length≤100000) (n:Nat) (E:PS→Ex × PS) (HE:ExC b L n E) (p:PS) (k:POk L n p) (h1:isP L p kBack=true):MCall Tryz.prog 161 [.ptr b 0] (.loc b (psC L p)) (.agg (lambdaG L E (L.length+1) (stepP p) (nxt L p).a).1.cells) (.loc b (psC L (lambdaG L E (L.length+1) (stepP p) (nxt L p).a).2)):=by
 have HN:=next_c b L p
 have HL:=lambda_c b L hL n E HE (L.length+1) (stepP p) (nxt L p).a ((Yf k h1).ok k) by17
 obtain ⟨⟨tk,tt,tn,ta⟩,ht⟩:∃ t,nxt L p=t:=⟨_,rfl⟩
 rw [ht] at HN HL ⊢
 simp only [Tok.av] at HN HL ⊢
 obtain ⟨⟨⟨xk,xs,xn,⟨xtk,xts,xtn,xtl⟩,xks,xal,xbs,xp⟩,p3⟩,e3⟩:∃ r,lambdaG L E (L.length+1) (stepP p) ta=r:=⟨_,rfl⟩
 rw [e3] at HL ⊢
 simp only [Ex.cells,Ty.cells,List.cons_append,List.nil_append] at HL ⊢
 refine Qe4 ?_
 refine Qcl ?_;intro b2
 refine QB ?_
 refine Zb 10 U U U (Yq (xs:=[.tmp 9]) [1] U U U (HN) by2 ?_)
 refine QR ?_;intro b3
 refine QcX ?_
 refine Zb 12 U U U (Zl (xs:=[.tmp 11,.const (.string ⟨#[92]⟩)]) (i:=2) U U U (may_yes hL h1) by2 ?_)
 refine Qa ?_
 refine QaW ?_
 refine Qn ?_
 refine Zb 16 U U U (Zl (xs:=[.tmp 13,.tmp 15]) (i:=2) U U U (HL) by2 ?_)
 refine Qe5 ?_
 refine Qr ?_
 exact Zk (i:=1) U U U Xg U (Xu _) (Xr _ (Xr _ (Xt U))) ⟨U,U⟩
theorem bindsL_go {L:List Tok} {E:PS→Ex × PS} {f:Nat} {p:PS} {acc:List Bi} (h:isP L p kAnd=true):bindsL L E (f+1) p acc=bindsL L E f (bindG L E (stepP p)).2 (acc++[(bindG L E (stepP p)).1]):=by rw [bindsL,if_pos h]
theorem bindsL_end {L:List Tok} {E:PS→Ex × PS} {f:Nat} {p:PS} {acc:List Bi} (h:¬ isP L p kAnd=true):bindsL L E f p acc=(acc,p):=by
 cases f with
 | zero=>rfl
 | succ f=>rw [bindsL,if_neg h]
theorem operand_let (b:Nat) (L:List Tok) (hL:L.length≤100000) (n:Nat) (E:PS→Ex × PS) (HE:ExC b L n E) (HA:∀ q,POk L n q→Adv L q (E q).2) (p:PS) (k:POk L n p) (h1:¬ isP L p kBack=true) (h2:isP L p kLet=true) (c23:Bool) (h3:isP L (stepP p) kRec=c23) (r:Ex × PS) (hr:letG L E (nxt L p).a (if c23=true then 1 else 0) (if c23=true then stepP (stepP p) else stepP p)=r):MCall Tryz.prog 161 [.ptr b 0] (.loc b (psC L p)) (.agg r.1.cells) (.loc b (psC L r.2)):=by
 have HN:=next_c b L p
 have k1:=(Yf k h2).ok k
 have HM:=may_eq (b:=b) hL h3
 have kq:POk L n (if c23=true then stepP (stepP p) else stepP p):=by
  cases c23 with
  | true=>exact (Yf k1 h3).ok k1
  | false=>exact k1
 obtain ⟨⟨tk,tt,tn,ta⟩,ht⟩:∃ t,nxt L p=t:=⟨_,rfl⟩
 rw [ht] at HN hr
 simp only [Tok.av] at HN hr
 obtain ⟨p2,hp2⟩:∃ q,(if c23=true then stepP (stepP p) else stepP p)=q:=⟨_,rfl⟩
 rw [hp2] at HM hr kq
 unfold letG at hr
 simp only [] at hr
 have HB:=bind_c b L hL n E HE p2 kq
 have k3:=(bindG_adv HA kq).ok kq
 obtain ⟨⟨⟨bn,⟨xk,xs,xn,⟨xtk,xts,xtn,xtl⟩,xks,xal,xbs,xp⟩,bp⟩,p3⟩,e3⟩:∃ r,bindG L E p2=r:=⟨_,rfl⟩
 rw [e3] at HB hr k3
 have k4:=(bindsL_adv HA (L.length+1) p3 [Bi.mk bn (Ex.mk xk xs xn (Ty.mk xtk xts xtn xtl) xks xal xbs xp) bp] k3).ok k3
 obtain ⟨⟨bl,p4⟩,e4⟩:∃ r,bindsL L E (L.length+1) p3 [Bi.mk bn (Ex.mk xk xs xn (Ty.mk xtk xts xtn xtl) xks xal xbs xp) bp]=r:=⟨_,rfl⟩
 simp only [] at hr k3
 rw [e4] at hr k4
 simp only [] at hr k4
 have H4:=take_c b L hL p4 k4.1 6 kIn
 have k5:=(Zn (kind:=6) (s:=kIn) by16 k4).ok k4
 obtain ⟨⟨u5,p5⟩,e5⟩:∃ r,takeP L p4 6 kIn=r:=⟨_,rfl⟩
 rw [e5] at hr k5 H4
 simp only [] at hr k5 H4
 have HX:=HE p5 k5
 obtain ⟨⟨⟨yk,ys,yn,⟨ytk,yts,ytn,ytl⟩,yks,yal,ybs,yp⟩,p6⟩,e6⟩:∃ r,E p5=r:=⟨_,rfl⟩
 rw [e6] at HX hr
 simp only [Bi.cells,Ex.cells,Ty.cells,List.cons_append,List.nil_append] at HB HX hr
 refine Qe4 ?_
 refine Qcl ?_;intro b2
 refine QB ?_
 refine Zb 10 U U U (Yq (xs:=[.tmp 9]) [1] U U U (HN) by2 ?_)
 refine QR ?_;intro b3
 refine QcX ?_
 refine Zb 12 U U U (Zl (xs:=[.tmp 11,.const (.string ⟨#[92]⟩)]) (i:=2) U U U (may_no hL h1) by2 ?_)
 refine Qa ?_
 refine QaP ?_
 refine Zb 18 U U U (Zl (xs:=[.tmp 17,.const (.string ⟨#[108,101,116]⟩)]) (i:=2) U U U (may_yes hL h2) by2 ?_)
 refine Qa ?_
 refine Qcg ?_
 refine Zb 21 U U U (Zm (ns:=[0,7]) (xs:=[.const (.int .i64 7),.tmp 20]) U tz_128 U tfl_128 U U U U ?_)
 refine QbA ?_;intro b4
 refine Qbg ?_
 refine QaB ?_
 refine Zb 23 U U U (Zl (xs:=[.tmp 22,.const (.string ⟨#[114,101,99]⟩)]) (i:=3) U U U (HM) by2 ?_)
 refine Qa ?_
 apply c_joink (rg [(1,1),(9,16),(42,1),(56,1),(60,1)]) (σ:=Unit) (fun zz=>match zz with|z=>[]) (fun zz=>match zz with|z=>[.loc b4 [.val (.int .i64 7),.val (.string kE),.val (.int .i64 (if c23=true then 1 else 0)),.val (.int .i64 0),.val (.string kE),.val (.int .i64 0),.val (.slice none 0 0),.val (.slice none 0 0),.val (.slice none 0 0),.val (.slice none 0 0),.val (.int .i64 ta)],.loc b3 (Tok.mk tk tt tn ta).av,.loc b2 zEx,.loc b (psC L p2)]) (fun zz=>match zz with|z=>True)
 ·repeat' (first|exact Wf|apply Wd rfl|apply We rfl)
 ·skip
  rcases c23 with _|_
  ·refine QbL ?_
   exact ⟨(),trivial,by5,Xt U⟩
  refine QbX ?_
  refine Qt ?_
  refine Qhk ?_
  refine Qa2 ?_
  refine go_lp ?_
  exact ⟨(),trivial,by5,Xt U⟩
 rintro z hI
 try dsimp only [List.cons_append,List.nil_append] at hI ⊢
 refine Qbd ?_
 refine Qck ?_
 refine Yc 3 (i:=3) U U U U U (Zl (xs:=[.tmp 27]) (i:=0) U U U (HB) by2 ⟨_,U,?_⟩)
 refine Zi 29 (none) (i:=4) U U U U U (Zf (xs:=[.tmp 28]) el_79 U U U U U U (Wc U) ⟨U,U⟩) ?_
 refine Xa (i:=5) U U U (op_append_nil el_79 U U U (.seq _ _) by7 (fun u30=>⟨_,U,?_⟩))
 refine QW ?_
 refine Qhn ?_
 show AGo _ _ _ _ _ _ _
 refine Qbd ?_
 refine c_block ?_
 apply Yl (rg [(1,1),(9,32),(42,1),(56,1),(60,1)]) (σ:=PS × Nat × List Bi × Value) (fun zz=>match zz with|(q,f,acc,u)=>[]) (fun zz=>match zz with|(q,f,acc,u)=>[.loc b4 [.val (.int .i64 7),.val (.string kE),.val (.int .i64 (if c23=true then 1 else 0)),.val (.int .i64 0),.val (.string kE),.val (.int .i64 0),.val (.slice none 0 0),.val (.slice none 0 0),.val (.slice none 0 0),.own u 13 (Bi.cellss acc),.val (.int .i64 ta)],.loc b3 (Tok.mk tk tt tn ta).av,.loc b2 zEx,.loc b (psC L q),.own 130 13 u]) (fun zz=>match zz with|(q,f,acc,u)=>POk L n q∧L.length - q.at_<f∧acc.length≤q.at_+1∧bindsL L E f q acc=(bl,p4)) (fun zz=>match zz with|(q,f,acc,u)=>f) ((p3,L.length+1,[Bi.mk bn (Ex.mk xk xs xn (Ty.mk xtk xts xtn xtl) xks xal xbs xp) bp],u30))
 ·repeat' (first|exact Wf|apply Wd rfl|apply We rfl)
 ·exact ⟨k3,by omega,by simp,e4⟩
 ·exact by5
 ·exact (Xt U)
 rintro ⟨q,f,acc,u⟩ hI
 try dsimp only [List.cons_append,List.nil_append] at hI ⊢
 obtain ⟨i1,i2,i3,hu⟩:=hI
 have hq1:=i1.1
 have hle:(Bi.cellss acc).length≤200000:=by rw [Bi.cellss_len];omega
 refine QS ?_
 refine Zb 33 U U U (op_mayc (xs:=[.tmp 32,.const (.string ⟨#[97,110,100]⟩)]) (i:=3) U U U (may_c b L hL q kAnd) by2 ?_ ?_)
 ·intro g33
  refine Qa ?_
  refine Qbk ?_
  obtain ⟨f,rfl⟩:∃ f',f=f'+1:=⟨f - 1,by omega⟩
  rw [bindsL_go g33] at hu
  have l1:=(Yf i1 g33).ok i1
  have l2:=(bindG_adv HA l1).ok l1
  have b2':(stepP q).at_≤_:=(bindG_adv HA l1).1
  have b4':(stepP q).at_=q.at_+1:=rfl
  have b5':=(is_lt g33).2
  have HB2:=bind_c b L hL n E HE _ l1
  obtain ⟨⟨⟨cn,⟨wk,ws,wn,⟨wtk,wts,wtn,wtl⟩,wks,wal,wbs,wp⟩,cp⟩,q2⟩,f2⟩:∃ r,bindG L E (stepP q)=r:=⟨_,rfl⟩
  rw [f2] at HB2 hu l2 b2'
  simp only [Bi.cells,Ex.cells,Ty.cells,List.cons_append,List.nil_append] at HB2 hu l2 b2'
  have l3:=l2.1
  refine Qck ?_
  refine Yc 3 (i:=3) U U U U U (Zl (xs:=[.tmp 36]) (i:=0) U U U (HB2) by2 ⟨_,U,?_⟩)
  refine Zi 38 (none) (i:=4) U U U U U (Zf (xs:=[.tmp 37]) el_79 U U U U U U (Wc U) ⟨U,U⟩) ?_
  refine Yc 4 (i:=5) U U U U U (Zv (i:=0) el_79 U U U U (.seq _ _) by7 (fun u39=>⟨_,U,?_⟩))
  refine QW ?_
  refine Qhn ?_
  show AGo _ _ _ _ _ _ _
  refine QcT ?_
  refine ⟨(q2,f,acc++[Bi.mk cn (Ex.mk wk ws wn (Ty.mk wtk wts wtn wtl) wks wal wbs wp) cp],u39),⟨l2,(by show L.length - q2.at_<f;omega),(by show (acc++[Bi.mk cn (Ex.mk wk ws wn (Ty.mk wtk wts wtn wtl) wks wal wbs wp) cp]).length≤q2.at_+1;rw [List.length_append];simp;omega),hu⟩,Nat.lt_succ_self f,by5,(Xs _ (Xw (Xu _) (Xw (Xu _) (Xw (Xu _) (Xw (Xu _) (Xw (Xu _) (Xw (Xu _) (Xw (Xu _) (Xw (Xu _) (Xw (Xu _) (Xw (Wb by10) (Xv _))))))))))) (Xq _ (Xq _ (Xt U))))⟩
 intro g33
 refine Qa ?_
 refine Qag ?_
 rw [bindsL_end g33] at hu
 simp only [Prod.mk.injEq] at hu
 obtain ⟨rfl,rfl⟩:=hu
 refine Qh ?_
 refine Zb 42 U U U (Zl (xs:=[.tmp 41,.const (.int .i64 6),.const (.string ⟨#[105,110]⟩)]) (i:=3) U U U (H4) by2 ?_)
 refine Qy ?_
 refine Qck ?_
 refine Yc 3 (i:=3) U U U U U (Zl (xs:=[.tmp 45]) (i:=0) U U U (HX) by2 ⟨_,U,?_⟩)
 refine Zi 47 (none) (i:=4) U U U U U (Zf (xs:=[.tmp 46]) el_125 U U U U U U (Wc U) ⟨U,U⟩) ?_
 refine Xa (i:=5) U U U (op_append_nil el_125 U U U (.seq _ _) by7 (fun u48=>⟨_,U,?_⟩))
 refine QW ?_
 refine Qe3 ?_
 show AGo _ _ _ _ _ _ _
 refine Qdy ?_
 refine Qcv ?_
 refine Qd6 ?_
 refine Qr ?_
 subst hr;exact Zk (i:=2) rfl rfl rfl Xg rfl by1 (Xr _ (Xr _ (Xr _ (Xq _ (Xp _))))) ⟨rfl,rfl⟩
theorem operand_if (b:Nat) (L:List Tok) (hL:L.length≤100000) (n:Nat) (E:PS→Ex × PS) (HE:ExC b L n E) (HA:∀ q,POk L n q→Adv L q (E q).2) (p:PS) (k:POk L n p) (h1:¬ isP L p kBack=true) (h2:¬ isP L p kLet=true) (h3:isP L p kIf=true):MCall Tryz.prog 161 [.ptr b 0] (.loc b (psC L p)) (.agg (ifG L E (nxt L p).a (stepP p)).1.cells) (.loc b (psC L (ifG L E (nxt L p).a (stepP p)).2)):=by
 have HN:=next_c b L p
 obtain ⟨r,hr⟩:∃ r,ifG L E (nxt L p).a (stepP p)=r:=⟨_,rfl⟩
 rw [hr]
 unfold ifG at hr
 simp only [] at hr
 obtain ⟨⟨tk,tt,tn,ta⟩,ht⟩:∃ t,nxt L p=t:=⟨_,rfl⟩
 rw [ht] at HN hr
 simp only [Tok.av] at HN hr
 have k1:=(Yf k h3).ok k
 have H1:=HE _ k1
 have k2:=(HA _ k1).ok k1
 obtain ⟨⟨⟨xk,xs,xn,⟨xtk,xts,xtn,xtl⟩,xks,xal,xbs,xp⟩,p2⟩,e2⟩:∃ r,E (stepP p)=r:=⟨_,rfl⟩
 rw [e2] at H1 k2 hr
 simp only [] at k2 hr
 have H2:=take_c b L hL p2 k2.1 6 kThen
 have k3:=(Zn (kind:=6) (s:=kThen) by16 k2).ok k2
 obtain ⟨⟨u3,p3⟩,e3⟩:∃ r,takeP L p2 6 kThen=r:=⟨_,rfl⟩
 rw [e3] at H2 k3 hr
 simp only [] at H2 k3 hr
 have H3:=HE _ k3
 have k4:=(HA _ k3).ok k3
 obtain ⟨⟨⟨yk,ys,yn,⟨ytk,yts,ytn,ytl⟩,yks,yal,ybs,yp⟩,p4⟩,e4⟩:∃ r,E p3=r:=⟨_,rfl⟩
 rw [e4] at H3 k4 hr
 simp only [] at k4 hr
 have H4:=take_c b L hL p4 k4.1 6 kElse
 have k5:=(Zn (kind:=6) (s:=kElse) by16 k4).ok k4
 obtain ⟨⟨u5,p5⟩,e5⟩:∃ r,takeP L p4 6 kElse=r:=⟨_,rfl⟩
 rw [e5] at H4 k5 hr
 simp only [] at H4 k5 hr
 have H5:=HE _ k5
 obtain ⟨⟨⟨zk,zs,zn,⟨ztk,zts,ztn,ztl⟩,zks,zal,zbs,zp⟩,p6⟩,e6⟩:∃ r,E p5=r:=⟨_,rfl⟩
 rw [e6] at H5 hr
 simp only [Ex.cells,Ty.cells,List.cons_append,List.nil_append] at H1 H3 H5 hr
 refine Qe4 ?_
 refine Qcl ?_;intro b2
 refine QB ?_
 refine Zb 10 U U U (Yq (xs:=[.tmp 9]) [1] U U U (HN) by2 ?_)
 refine QR ?_;intro b3
 refine QcX ?_
 refine Zb 12 U U U (Zl (xs:=[.tmp 11,.const (.string ⟨#[92]⟩)]) (i:=2) U U U (may_no hL h1) by2 ?_)
 refine Qa ?_
 refine QaP ?_
 refine Zb 18 U U U (Zl (xs:=[.tmp 17,.const (.string ⟨#[108,101,116]⟩)]) (i:=2) U U U (may_no hL h2) by2 ?_)
 refine Qa ?_
 refine QaP ?_
 refine Zb 52 U U U (Zl (xs:=[.tmp 51,.const (.string ⟨#[105,102]⟩)]) (i:=2) U U U (may_yes hL h3) by2 ?_)
 refine Qa ?_
 refine QaW ?_
 refine Zb 54 U U U (Zl (xs:=[.tmp 53]) (i:=2) U U U (H1) by2 ?_)
 refine QbA ?_;intro b5
 refine Qbg ?_
 refine QB ?_
 refine Zb 56 U U U (Zl (xs:=[.tmp 55,.const (.int .i64 6),.const (.string ⟨#[116,104,101,110]⟩)]) (i:=3) U U U (H2) by2 ?_)
 refine QB ?_
 refine Zb 58 U U U (Zl (xs:=[.tmp 57]) (i:=3) U U U (H3) by2 ?_)
 refine QbA ?_;intro b6
 refine Qbg ?_
 refine QB ?_
 refine Zb 60 U U U (Zl (xs:=[.tmp 59,.const (.int .i64 6),.const (.string ⟨#[101,108,115,101]⟩)]) (i:=4) U U U (H4) by2 ?_)
 refine QB ?_
 refine Zb 62 U U U (Zl (xs:=[.tmp 61]) (i:=4) U U U (H5) by2 ?_)
 refine QbA ?_;intro b7
 refine Qbg ?_
 refine Qu ?_
 refine Qe2 ?_
 refine Qf1 ?_
 refine Qcv ?_
 refine Zb 66 U U U (Zf (xs:=[.tmp 63,.tmp 64,.tmp 65]) el_125 U U U U U U (Wc U) ?_)
 refine Qt ?_
 refine Qcu ?_
 refine Zb 69 U U U (Zm (ns:=[0,4,7]) (xs:=[.const (.int .i64 9),.tmp 66,.tmp 68]) U tz_128 U tfl_128 U U U U ?_)
 refine Qhj ?_
 refine Qr ?_
 subst hr;exact Zk (i:=4) rfl rfl rfl Xg rfl by1 (Xr _ (Xr _ (Xr _ (Xr _ (Xr _ (Xt rfl)))))) ⟨rfl,rfl⟩
theorem appsL_go {L:List Tok} {E:PS→Ex × PS} {a:Int} {f:Nat} {p:PS} {x:Ex} (h:startsP L 2 p):appsL L E a (f+1) p x=appsL L E a f (atomG L E p).2 (opE 5 [x,(atomG L E p).1] a):=by rw [appsL,if_pos h]
theorem appsL_end {L:List Tok} {E:PS→Ex × PS} {a:Int} {f:Nat} {p:PS} {x:Ex} (h:¬ startsP L 2 p):appsL L E a f p x=(x,p):=by
 cases f with
 | zero=>rfl
 | succ f=>rw [appsL,if_neg h]
theorem operand_app (b:Nat) (L:List Tok) (hL:L.length≤100000) (n:Nat) (E:PS→Ex × PS) (HE:ExC b L n E) (HA:∀ q,POk L n q→Adv L q (E q).2) (p:PS) (k:POk L n p) (h1:¬ isP L p kBack=true) (h2:¬ isP L p kLet=true) (h3:¬ isP L p kIf=true) (r:Ex × PS) (hr:appsL L E (nxt L p).a (L.length+1) (atomG L E p).2 (atomG L E p).1=r):MCall Tryz.prog 161 [.ptr b 0] (.loc b (psC L p)) (.agg r.1.cells) (.loc b (psC L r.2)):=by
 have HN:=next_c b L p
 obtain ⟨⟨tk,tt,tn,ta⟩,ht⟩:∃ t,nxt L p=t:=⟨_,rfl⟩
 rw [ht] at HN hr
 simp only [Tok.av] at HN hr
 have H1:=atom_c b L hL n E HE HA p k
 have k2:=(atom_adv HA k).ok k
 obtain ⟨⟨⟨zk,zs,zn,⟨ztk,zts,ztn,ztl⟩,zks,zal,zbs,zp⟩,p2⟩,e2⟩:∃ r,atomG L E p=r:=⟨_,rfl⟩
 rw [e2] at H1 k2 hr
 simp only [Ex.cells,Ty.cells,List.cons_append,List.nil_append] at H1 k2 hr
 refine Qe4 ?_
 refine Qcl ?_;intro b2
 refine QB ?_
 refine Zb 10 U U U (Yq (xs:=[.tmp 9]) [1] U U U (HN) by2 ?_)
 refine QR ?_;intro b3
 refine QcX ?_
 refine Zb 12 U U U (Zl (xs:=[.tmp 11,.const (.string ⟨#[92]⟩)]) (i:=2) U U U (may_no hL h1) by2 ?_)
 refine Qa ?_
 refine QaP ?_
 refine Zb 18 U U U (Zl (xs:=[.tmp 17,.const (.string ⟨#[108,101,116]⟩)]) (i:=2) U U U (may_no hL h2) by2 ?_)
 refine Qa ?_
 refine QaP ?_
 refine Zb 52 U U U (Zl (xs:=[.tmp 51,.const (.string ⟨#[105,102]⟩)]) (i:=2) U U U (may_no hL h3) by2 ?_)
 refine Qa ?_
 refine Qau ?_
 refine Zb 71 U U U (Zl (xs:=[.tmp 70]) (i:=2) U U U (H1) by2 ?_)
 refine QbA ?_;intro b8
 refine Qbg ?_
 refine QcG ?_
 apply Yl (rg [(1,1),(4,4),(9,72)]) (σ:=PS × Nat × Ex) (fun zz=>match zz with|(q,f,Ex.mk xk xs xn (Ty.mk xtk xts xtn xtl) xks xal xbs xp)=>[]) (fun zz=>match zz with|(q,f,Ex.mk xk xs xn (Ty.mk xtk xts xtn xtl) xks xal xbs xp)=>[.loc b8 [.val (.int .i64 xk),.val (.string xs),.val (.int .i64 xn),.val (.int .i64 xtk),.val (.string xts),.val (.int .i64 xtn),.seq 4 (Ty.cellss xtl),.seq 11 (Ex.cellss xks),.seq 16 (Al.cellss xal),.seq 13 (Bi.cellss xbs),.val (.int .i64 xp)],.loc b3 (Tok.mk tk tt tn ta).av,.loc b2 zEx,.loc b (psC L q)]) (fun zz=>match zz with|(q,f,Ex.mk xk xs xn (Ty.mk xtk xts xtn xtl) xks xal xbs xp)=>POk L n q∧L.length - q.at_<f∧appsL L E ta f q (Ex.mk xk xs xn (Ty.mk xtk xts xtn xtl) xks xal xbs xp)=r) (fun zz=>match zz with|(q,f,Ex.mk xk xs xn (Ty.mk xtk xts xtn xtl) xks xal xbs xp)=>f) ((p2,L.length+1,Ex.mk zk zs zn (Ty.mk ztk zts ztn ztl) zks zal zbs zp))
 ·repeat' (first|exact Wf|apply Wd rfl|apply We rfl)
 ·exact ⟨k2,by omega,hr⟩
 ·exact by5
 ·exact (Xt U)
 rintro ⟨q,f,⟨xk,xs,xn,⟨xtk,xts,xtn,xtl⟩,xks,xal,xbs,xp⟩⟩ hI
 try dsimp only [List.cons_append,List.nil_append] at hI ⊢
 obtain ⟨i1,i2,hu⟩:=hI
 have hq1:=i1.1
 refine QS ?_
 refine Zb 73 U U U (op_callkb (xs:=[.tmp 72,.const (.int .i64 2)]) [3] U U U (starts_c b L q 2) by2 ?_);intro c73 h73
 refine Qa ?_
 obtain ⟨rfl,g73⟩|⟨rfl,g73⟩:=Za h73
 ·refine Qa3 ?_
  refine Qcv ?_
  refine Qd6 ?_
  refine Qr ?_
  rw [appsL_end g73] at hu;subst hu;exact Zk (i:=2) rfl rfl rfl Xg rfl (Xu _) (Xr _ (Xr _ (Xr _ (Xt rfl)))) ⟨rfl,rfl⟩
 refine Qbk ?_
 obtain ⟨f,rfl⟩:∃ f',f=f'+1:=⟨f - 1,by omega⟩
 rw [appsL_go g73] at hu
 have b1:=atom_lt HA i1 g73
 have l2:=(atom_adv HA i1).ok i1
 have HA2:=atom_c b L hL n E HE HA q i1
 obtain ⟨⟨⟨wk,ws,wn,⟨wtk,wts,wtn,wtl⟩,wks,wal,wbs,wp⟩,q2⟩,f2⟩:∃ r,atomG L E q=r:=⟨_,rfl⟩
 rw [f2] at HA2 hu l2 b1
 simp only [Ex.cells,Ty.cells,List.cons_append,List.nil_append] at HA2 hu l2 b1
 have l3:=l2.1
 refine Yh [0,1,4,5,2,3,6,7] [2,7] [[],[],[1],[0,1,2],[],[4],[0,1,2,3,4,5],[0,1,2,3,4,5,6]] Yx U ?_
 refine Qhl ?_
 refine Qw ?_
 refine QW ?_
 refine QdR ?_
 refine Yc 3 (i:=2) U U U U U (Zl (xs:=[.tmp 75]) (i:=0) U U U (HA2) by2 ⟨_,U,?_⟩)
 refine Zi 77 (none) (i:=3) U U U U U (Zf (xs:=[.tmp 74,.tmp 76]) el_125 U U U U U U (Wc U) ⟨U,U⟩) ?_
 refine Zi 80 (none) (i:=6) U U U U U (Zm (ns:=[0,4,7]) (xs:=[.const (.int .i64 5),.tmp 77,.tmp 79]) U tz_128 U tfl_128 U U U U ⟨U,U⟩) ?_
 refine Qhm ?_
 show AGo _ _ _ _ _ _ _
 refine QcT ?_
 refine ⟨(q2,f,Ex.mk 5 kE 0 (Ty.mk 0 kE 0 []) [Ex.mk xk xs xn (Ty.mk xtk xts xtn xtl) xks xal xbs xp,Ex.mk wk ws wn (Ty.mk wtk wts wtn wtl) wks wal wbs wp] [] [] ta),⟨l2,(by show L.length - q2.at_<f;omega),hu⟩,Nat.lt_succ_self f,by5,(Xs _ by1 (Xq _ (Xq _ (Xt U))))⟩
theorem operand_c (b:Nat) (L:List Tok) (hL:L.length≤100000) (n:Nat) (E:PS→Ex × PS) (HE:ExC b L n E) (HA:∀ q,POk L n q→Adv L q (E q).2) (p:PS) (k:POk L n p):MCall Tryz.prog 161 [.ptr b 0] (.loc b (psC L p)) (.agg (operandG L E p).1.cells) (.loc b (psC L (operandG L E p).2)):=by
 unfold operandG
 by_cases h1:isP L p kBack=true
 ·rw [if_pos h1];exact operand_lam b L hL n E HE p k h1
 by_cases h2:isP L p kLet=true
 ·rw [if_neg h1,if_pos h2]
  by_cases h3:isP L (stepP p) kRec=true
  ·rw [if_pos h3];exact operand_let b L hL n E HE HA p k h1 h2 true h3 _ rfl
  rw [if_neg h3];exact operand_let b L hL n E HE HA p k h1 h2 false (by simpa using h3) _ rfl
 by_cases h3:isP L p kIf=true
 ·rw [if_neg h1,if_neg h2,if_pos h3];exact operand_if b L hL n E HE HA p k h1 h2 h3
 rw [if_neg h1,if_neg h2,if_neg h3];exact operand_app b L hL n E HE HA p k h1 h2 h3 _ rfl
theorem Exp_err (b:Nat) (L:List Tok) (p:PS) (he:p.e≠0):MCall Tryz.prog 105 [.ptr b 0] (.loc b (psC L p)) (.agg ex0.cells) (.loc b (psC L p)):=by
 refine Qho ?_
 refine Qcl ?_;intro b2
 refine QaB ?_
 refine QdE ?_;intro c12 h12
 refine Qa ?_
 obtain ⟨rfl,g12⟩|⟨rfl,g12⟩:=Za h12
 ·exact absurd he g12
 refine Qq ?_
 refine Qf6 ?_
 refine Qbg ?_
 refine Qr ?_
 exact Zk (i:=0) U U U Xg U by1 (Xr _ (Xo _)) ⟨U,U⟩
theorem clash_in (lv:Nat→Nat):∀ f k,clashL lv f k = -1∨((k:Int)≤clashL lv f k∧clashL lv f k<k+f)
 | 0,k=>.inl rfl
 | f+1,k=>by
  unfold clashL
  split
  ·right;omega
  rcases clash_in lv f (k+1) with h|h
  ·exact .inl h
  right;omega
theorem clashP_lt {ops:List Tok} (h:0≤clashP ops):(clashP ops).toNat<ops.length:=by
 rcases clash_in (lvT ops) ops.length 0 with q|q <;> unfold clashP at * <;> omega
theorem opsL_go {L:List Tok} {E:PS→Ex × PS} {f:Nat} {p:PS} {l:List Ex} {o:List Tok} (h:(nxt L p).k=5):opsL L E (f+1) p l o=opsL L E f (operandG L E (takeP L p 5 kE).2).2 (l++[(operandG L E (takeP L p 5 kE).2).1]) (o++[(takeP L p 5 kE).1]):=by rw [opsL,if_pos h]
theorem opsL_end {L:List Tok} {E:PS→Ex × PS} {f:Nat} {p:PS} {l:List Ex} {o:List Tok} (h:¬ (nxt L p).k=5):opsL L E f p l o=((l,o),p):=by
 cases f with
 | zero=>rfl
 | succ f=>rw [opsL,if_neg h]
theorem Exp_ok (b:Nat) (L:List Tok) (hL:L.length≤100000) (n:Nat) (E:PS→Ex × PS) (HE:ExC b L n E) (HA:∀ q,POk L n q→Adv L q (E q).2) (p:PS) (k:POk L (n+1) p) (he:p.e=0) (r:Ex × PS) (hr:joinE (opsL L E (L.length+1) (operandG L E (deeperP L p)).2 [(operandG L E (deeperP L p)).1] [])=r):MCall Tryz.prog 105 [.ptr b 0] (.loc b (psC L p)) (.agg r.1.cells) (.loc b (psC L r.2)):=by
 have kq:=deeper_ok k he
 have H1:=operand_c b L hL n E HE HA _ kq
 have k2:=(operand_adv HA kq).ok kq
 obtain ⟨⟨⟨zk,zs,zn,⟨ztk,zts,ztn,ztl⟩,zks,zal,zbs,zp⟩,p2⟩,e2⟩:∃ r,operandG L E (deeperP L p)=r:=⟨_,rfl⟩
 rw [e2] at H1 k2 hr
 simp only [] at k2 hr
 obtain ⟨⟨⟨yl,yo⟩,p4⟩,e4⟩:∃ r,opsL L E (L.length+1) p2 [Ex.mk zk zs zn (Ty.mk ztk zts ztn ztl) zks zal zbs zp] []=r:=⟨_,rfl⟩
 rw [e4] at hr
 unfold joinE at hr
 simp only [Ex.cells,Ty.cells,List.cons_append,List.nil_append] at H1 hr
 refine Qho ?_
 refine Qcl ?_;intro b2
 refine QaB ?_
 refine QdE ?_;intro c12 h12
 refine Qa ?_
 obtain ⟨rfl,g12⟩|⟨rfl,g12⟩:=Za h12
 ·refine Qau ?_
  refine Zb 15 U U U (Zl (xs:=[.tmp 14]) (i:=1) U U U (deeper_c b L p k.2.1 (by have:=k.2.2.1;omega)) by2 ?_)
  refine QB ?_
  refine Zb 17 U U U (Zl (xs:=[.tmp 16]) (i:=1) U U U (H1) by2 ?_)
  refine Zb 18 U U U (Ys (xs:=[.tmp 17]) el_125 U U U U U U (Wc U) ?_);intro u18
  refine Qs ?_
  refine Qs ?_
  refine Qcc ?_
  refine Yp 109 4 ?_
  refine Qcs ?_
  apply Yl (rg [(1,1),(3,4),(8,31),(55,1)]) (σ:=PS × Nat × List Ex × List Tok × Value × Value × Value) (fun zz=>match zz with|(q,f,l,ops,u,v,w)=>[(3,.own u 11 (Ex.cellss l)),(4,.own v 4 (ops.map Tok.av)),(5,.own w 1 (strs (ops.map Tok.t)))]) (fun zz=>match zz with|(q,f,l,ops,u,v,w)=>[.own 128 11 u,.loc b2 zEx,.loc b (psC L q),.own 109 4 v,.own 9 1 w]) (fun zz=>match zz with|(q,f,l,ops,u,v,w)=>POk L n q∧L.length - q.at_<f∧l.length=ops.length+1∧ops.length≤q.at_∧opsL L E f q l ops=((yl,yo),p4)) (fun zz=>match zz with|(q,f,l,ops,u,v,w)=>f) ((p2,L.length+1,[Ex.mk zk zs zn (Ty.mk ztk zts ztn ztl) zks zal zbs zp],[],u18,.slice none 0 0,.slice none 0 0))
  ·repeat' (first|exact Wf|apply Wd rfl|apply We rfl)
  ·exact ⟨k2,by omega,U,Nat.zero_le _,e4⟩
  ·exact Xy U (Xu _) (Xy U (Le.nilOwn 4) (Xy U (Le.nilOwn 1) (Xz _)))
  ·exact (Xt U)
  rintro ⟨q,f,l,ops,u,v,w⟩ hI
  try dsimp only [List.cons_append,List.nil_append] at hI ⊢
  obtain ⟨i1,i2,i3,i4,hu⟩:=hI
  have hq1:=i1.1
  have hb1:=i1.2.1
  have hb2:=i1.2.2.1
  have hl1:(Ex.cellss l).length≤200000:=by rw [Ex.cellss_len];omega
  have hl2:(ops.map Tok.av).length≤200000:=by rw [List.length_map];omega
  have hl3:(strs (ops.map Tok.t)).length≤200000:=by rw [Ya,List.length_map];omega
  have HN:=next_c b L q
  have hkn:(nxt L q).k=5→q.at_<L.length:=fun e=>(Xn by17).2
  have hgo:=fun f=>opsL_go (L:=L) (E:=E) (f:=f) (p:=q) (l:=l) (o:=ops)
  have hend:=opsL_end (L:=L) (E:=E) (f:=f) (p:=q) (l:=l) (o:=ops)
  have htk:=fun h:(nxt L q).k=5=>take_k (s:=kE) h by16 by16
  obtain ⟨⟨qk,qt,qn,qa⟩,hqt⟩:∃ t,nxt L q=t:=⟨_,rfl⟩
  rw [hqt] at HN hkn hgo hend htk
  simp only [Tok.av] at HN hkn hgo hend htk
  refine QS ?_
  refine Zb 20 U U U (Yq (xs:=[.tmp 19]) [2] U U U (HN) by2 ?_)
  refine Qd5 ?_
  refine Qz ?_;intro c22 h22
  refine Qa ?_
  obtain ⟨rfl,g22⟩|⟨rfl,g22⟩:=Za h22
  ·refine Qbs ?_
   rw [hend g22] at hu
   simp only [Prod.mk.injEq] at hu
   obtain ⟨⟨rfl,rfl⟩,rfl⟩:=hu
   refine Qh ?_
   refine Qdc ?_
   refine QP ?_;intro c43 h43
   refine Qa ?_
   obtain ⟨rfl,g43⟩|⟨rfl,g43⟩:=Za h43
   ·refine Qau ?_
    refine Zb 46 U U U (Zd (xs:=[.tmp 45]) U U (Clash_p ops by17) by2 ?_)
    refine QU ?_
    refine QbS ?_;intro c48 h48
    refine Qa ?_
    obtain ⟨rfl,g48⟩|⟨rfl,g48⟩:=Za h48
    ·refine Qau ?_
     refine Qdc ?_
     refine Qay ?_
     refine Qbq ?_
     refine Qej ?_
     refine Qy ?_
     have HB:=Build_c l ops i3 by17 ops.length 0 ops.length (Nat.zero_le _) (Nat.le_refl _) by17
     rw [if_neg g43,if_neg g48] at hr
     obtain ⟨⟨wk,ws,wn,⟨wtk,wts,wtn,wtl⟩,wks,wal,wbs,wp⟩,f2⟩:∃ r,buildF l ops ops.length 0 ops.length=r:=⟨_,rfl⟩
     rw [f2] at HB hr
     simp only [Ex.cells,Ty.cells,List.cons_append,List.nil_append] at HB
     have hlen:(ops.map Tok.av).length=ops.length:=List.length_map _
     rw [show ((ops.length:Nat):Int)=(((ops.map Tok.av).length:Nat):Int) by rw [hlen]] at HB
     refine QaO ?_
     refine Zb 67 U U U (Yw U tu_105 U (.own _ _ _) (fun n67=>?_))
     refine Zb 68 U U U (Zd (xs:=[.tmp 64,.tmp 65,.const (.int .i64 0),.tmp 67]) U U (HB) by2 ?_)
     refine Qe5 ?_
     refine Qr ?_
     subst hr;exact Zk (i:=1) rfl rfl rfl Xg rfl by1 (Xr _ (Xr _ (Xq _ (Xp _)))) ⟨rfl,rfl⟩
    refine QM ?_
    have hcl:=clashP_lt g48
    refine QaO ?_
    refine Zb 52 U U U (Zh (i:=(clashP ops).toNat) U te_105 U (.own _ _ _) U by11 (toks_at hcl) ?_)
    refine Qd ?_
    refine Zb 55 U U U (Zl (xs:=[.tmp 49,.const (.int .i64 112),.tmp 54]) (i:=2) U U U (fail_c b L q 112 _) by2 ?_)
    refine Qu ?_
    refine Qf6 ?_
    refine Qe5 ?_
    refine Qr ?_
    rw [if_neg g43,if_pos g48] at hr;subst hr;exact Zk (i:=1) rfl rfl rfl Xg rfl by1 (Xr _ (Xr _ (Xq _ (Xp _)))) ⟨rfl,rfl⟩
   refine Qq ?_
   refine Qf6 ?_
   refine Qe5 ?_
   refine Qr ?_
   rw [if_pos g43] at hr;subst hr;exact Zk (i:=1) rfl rfl rfl Xg rfl by1 (Xr _ (Xr _ (Xq _ (Xp _)))) ⟨rfl,rfl⟩
  refine Qdq ?_
  obtain ⟨f,rfl⟩:∃ f',f=f'+1:=⟨f - 1,by omega⟩
  have hlt:=hkn g22
  rw [hgo f g22,htk g22] at hu
  have HT:=take_c b L hL q hq1 5 kE
  rw [htk g22] at HT
  have l1:=(Xd i1 hlt).ok i1
  have HO:=operand_c b L hL n E HE HA _ l1
  have l2:=(operand_adv HA l1).ok l1
  have b1:(stepP q).at_≤_:=(operand_adv HA l1).1
  have b2':(stepP q).at_=q.at_+1:=rfl
  obtain ⟨⟨⟨wk,ws,wn,⟨wtk,wts,wtn,wtl⟩,wks,wal,wbs,wp⟩,q2⟩,f2⟩:∃ r,operandG L E (stepP q)=r:=⟨_,rfl⟩
  simp only [] at hu
  rw [f2] at HO l2 b1 hu
  simp only [Tok.av,Ex.cells,Ty.cells,List.cons_append,List.nil_append] at HT HO l2 b1 hu
  have l3:=l2.1
  refine Qh ?_
  refine Zb 24 U U U (Zl (xs:=[.tmp 23,.const (.int .i64 5),.const (.string ⟨#[]⟩)]) (i:=2) U U U (HT) by2 ?_)
  refine QR ?_;intro b6
  refine Qaw ?_
  refine QB ?_
  refine QcJ ?_
  refine Zb 27 U U U (Zf (xs:=[.tmp 26]) el_105 U U U U U U (Wc U) (Zb 28 U U U (Zv (i:=4) el_105 U U U U (.seq _ _) by7 ?_)))
  intro u28
  refine QK ?_
  refine Qn ?_
  refine Zb 32 U U U (Zf (xs:=[.tmp 31]) Yy U U U U U U (Wc U) (Zb 33 U U U (Zv (i:=5) Yy U U U U (.seq _ _) by7 ?_)))
  intro u33
  refine Qj ?_
  refine Q8 ?_
  refine Zb 36 U U U (Zl (xs:=[.tmp 35]) (i:=3) U U U (HO) by2 ?_)
  refine Zb 37 U U U (Zf (xs:=[.tmp 36]) el_125 U U U U U U (Wc U) (Zb 38 U U U (Zv (i:=1) el_125 U U U U (.seq _ _) by7 ?_)))
  intro u38
  refine Qbl ?_
  refine ⟨(q2,f,l++[Ex.mk wk ws wn (Ty.mk wtk wts wtn wtl) wks wal wbs wp],ops++[Tok.mk qk qt qn qa],u38,u28,u33),⟨l2,(by show L.length - q2.at_<f;omega),(by simp [i3]),(by show (ops++[Tok.mk qk qt qn qa]).length≤q2.at_;rw [List.length_append];simp;omega),hu⟩,Nat.lt_succ_self f,Xy U (Wb (by rw [Ex.cellss_app'];rfl)) (Xy U (Wb (by rw [List.map_append];rfl)) (Xy U (Wb (by rw [List.map_append,Xm];rfl)) by5)),Xr _ (Xt U)⟩
 exact absurd he g12
theorem Exp_c (b:Nat) (L:List Tok) (hL:L.length≤100000):∀ n,ExC b L n (expF L n)
 | 0,p,k=>Exp_err b L p (fun e=>by have:=k.2.2.2 e;omega)
 | n+1,p,k=>by
  by_cases he:p.e=0
  ·exact Exp_ok b L hL n (expF L n) (Exp_c b L hL n) (expF_adv n) p k he _ (by rw [expF,if_neg (by rw [he];simp)])
  rw [expF,if_pos he];exact Exp_err b L p he
theorem expP_c (b:Nat) (L:List Tok) (hL:L.length≤100000):ExC b L 302 (expP L):=Exp_c b L hL 302
theorem bindP_c (b:Nat) (L:List Tok) (hL:L.length≤100000) (p:PS) (k:POk L 302 p):MCall Tryz.prog 60 [.ptr b 0] (.loc b (psC L p)) (.agg (bindP L p).1.cells) (.loc b (psC L (bindP L p).2)):=bind_c b L hL 302 (expP L) (expP_c b L hL) p k
end Go.Proofs.YteepjjgooplljaaGreat
