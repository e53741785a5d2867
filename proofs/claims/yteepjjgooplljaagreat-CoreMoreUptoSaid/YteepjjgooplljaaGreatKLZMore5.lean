/- Parts of a proof: decls.Con; core.con; core.con, core.prim; core.prim; core.Parts; core.typ: one walk through all kinds; tree.Names, cognateref05.Names; tree.search; tree.Free; core.pattern; A logic of trees: a range over a function within a round of another.; core.bind, core.let; core.cases; operations that are guarded, in a drawn region that writes; core.cases, whole; core: bounds of patterns' and dictionaries' types; names; core.typ's plain function, kind by kind; core.typ, whole; core.Check; count, Small of layer 21; the document's core rules: con, kids, Con, Right; names of declarations: what the lexer makes of them; turn, none, Put, Apply of the program; the program's Above; Needs of the program; declarations that were parsed and are right; declarations that were parsed: names, types of constructors and methods; An expression's bulk bounds what it holds.; core expressions: bounds from the bulk of what is read; the document's Put: types bounded node by node; And, one, base, names; the document's Parts; the document's are: expressions of types; cognateref15: Unlike, one, base, ConType; core's names; cognateref15: ConType, Pattern; cognateref15: Pattern -/
import Derived.Test.YteepjjgooplljaaGreatKLZMore4
import Derived.RangeFuncNested
set_option maxRecDepth 100000
set_option maxHeartbeats 4000000
namespace Go.Proofs.YteepjjgooplljaaGreat
open Go.RowKit
theorem IxF_Cn (p:Cn→Bool) (g:FuncId) (fs cs:List AV) (l:List Cn) (hg:∀ x∈l,BCall Tryz.prog g (fs++[.agg x.cells]++cs) (p x=true)):PCall Tryz.prog 207 [.seq 3 (Cn.cellss l),.clo (.func g) fs cs] (.val (.int .i64 (findI p l 0))):=by
 have hl:=Cn.cellss_len l
 obtain ⟨r,hr⟩:∃ r,findI p l 0=r:=⟨_,rfl⟩
 rw [hr]
 refine Zc Tryz.func207 U (by kernel_rfl) U (Wc U) ?_
 refine QN ?_
 refine c_lens (t:=0) U (.seq _ _) (fun hmax=>?_)
 refine QbY ?_
 refine Qft ?_;intro n7
 refine Qam ?_
 apply Zu (rg [(2,5),(8,11)]) (σ:=Nat) (fun zz=>match zz with|i=>[(8,.val (.int .i64 i))]) (fun zz=>match zz with|i=>i≤l.length∧findI p (l.drop i) i=r) (fun zz=>match zz with|i=>l.length - i) (0)
 ·repeat' (first|exact Wf|apply Wd rfl|apply We rfl)
 ·exact ⟨by omega,hr⟩
 ·exact by5
 rintro i hI
 try dsimp only [List.cons_append,List.nil_append] at hI ⊢
 obtain ⟨hi,hu⟩:=hI
 refine Qan ?_;intro c9 h9
 refine Qy ?_
 obtain ⟨rfl,g9⟩|⟨rfl,g9⟩:=Za h9
 ·refine Qad ?_
  rw [List.drop_eq_nil_of_le by17,findI] at hu;exact Ze rfl rfl (Xu _) by4 ⟨by rw [← hu],rfl⟩
 refine Qk ?_
 obtain ⟨⟨ys,yts,yp⟩,hxy⟩:=Zj (l:=l) (i:=i) by8
 have hcy:=Cn.cellss_get hxy
 have hmy:=Wg hxy
 refine Qh ?_
 refine QG ?_
 rw [Zz hxy,findI] at hu
 have HG:=hg _ hmy
 refine QaO ?_
 refine Zb 14 U U U (Zh U te_112 U (.seq _ _) U U (hcy) (Zb 15 U U U (Zt (cs':=[_,_,_]) U ta_163 U U U (Zb 16 U U U (op_callvb (xs:=[.tmp 15]) U U U (HG) by2 ?_)))));intro c16 h16
 refine Qa ?_
 obtain ⟨rfl,g16⟩|⟨rfl,g16⟩:=Za h16
 ·refine Qbu ?_
  rw [if_neg g16] at hu;exact ⟨i+1,⟨by omega,hu⟩,by show l.length - (i+1)<l.length - i;omega,by5,by4⟩
 refine QaY ?_
 rw [if_pos g16] at hu;exact Ze rfl rfl (Xu _) by4 ⟨by rw [hu],rfl⟩
theorem fnd_Cn (p:Cn→Bool) (g:FuncId) (fs cs:List AV) (l:List Cn) (hg:∀ x∈l,BCall Tryz.prog g (fs++[.agg x.cells]++cs) (p x=true)):PCall Tryz.prog 180 [.seq 3 (Cn.cellss l),.clo (.func g) fs cs] (.tup [.val (.int .i64 (max (findI p l 0) 0)),.val (.bool (decide (0≤findI p l 0)))]):=by
 have H:=IxF_Cn p g fs cs l hg
 refine Zc Tryz.func180 U (by kernel_rfl) U (Wc U) ?_
 refine Qe ?_
 refine QJ ?_
 refine Qbb ?_
 refine Zb 9 U U U (Zd (xs:=[.tmp 7,.tmp 8]) U U (H) by2 ?_)
 refine QK ?_
 refine QfG ?_
 refine QbG ?_;intro c13 h13
 refine Qac ?_
 exact Yn U U U (Le.tup (Xw (Xu _) (Xw (Le.beq (by cases c13 <;> simp_all)) (Xv _)))) by4 ⟨U,U⟩
theorem Con1_c (x:Cn) (s:ByteArray):BCall Tryz.prog 181 [.agg x.cells,.cptr [.val (.string s)]] (sameB x.s s=true):=by
 obtain ⟨cs,ts,p⟩:=x
 rw [show (sameB (Cn.mk cs ts p).s s=true)=(cs=s) from propext Yt]
 refine Zc Tryz.func181 U (by kernel_rfl) U (Wc U) ?_
 refine Qar ?_
 refine Qs ?_
 refine Qd ?_
 refine QaG ?_
 refine Qas ?_;intro c7 h7
 refine Qo ?_
 exact Ze U U (Xu _) (Xp _) ⟨⟨_,h7,U⟩,U⟩
def conJ (s:ByteArray):List Da→Nat→Option (Nat × Nat)
 | [],_=>none
 | d::l,i=>if findI (fun (c:Cn)=>sameB c.s s) d.cs 0<0 then conJ s l (i+1) else some (i,(findI (fun (c:Cn)=>sameB c.s s) d.cs 0).toNat)
def conT:Option (Nat × Nat)→AV
 | none=>.tup [.val (.int .i64 0),.val (.int .i64 0),.val (.bool false)]
 | some (i,k)=>.tup [.val (.int .i64 i),.val (.int .i64 k),.val (.bool true)]
theorem tCon_c (v:En) (s:ByteArray):PCall Tryz.prog 144 [.agg v.cells,.val (.string s)] (conT (conJ s v.da 0)):=by
 obtain ⟨r,hr⟩:∃ r,conJ s v.da 0=r:=⟨_,rfl⟩
 rw [hr]
 have HF:=fun l:List Cn=>fnd_Cn (fun c=>sameB c.s s) 181 [] [.cptr [.val (.string s)]] l (fun x _=>Con1_c x s)
 obtain ⟨da,cl,ins⟩:=v
 have hld:=Da.cellss_len da
 simp only [En.cells,En.da] at *
 refine Zc Tryz.func144 U (by kernel_rfl) U (Wc U) ?_
 refine QN ?_
 refine c_lena (t:=0) (j:=0) U U (.seq _ _) (fun hmax=>?_)
 refine Ql ?_
 refine Qde ?_
 refine Qcr ?_
 refine QcA ?_
 refine Qc6 ?_
 refine Qeb ?_;intro n13
 refine Qam ?_
 apply Yl (rg [(0,3),(4,8),(14,16)]) (σ:=Nat) (fun zz=>match zz with|i=>[(14,.val (.int .i64 i))]) (fun zz=>match zz with|i=>[]) (fun zz=>match zz with|i=>i≤da.length∧conJ s (da.drop i) i=r) (fun zz=>match zz with|i=>da.length - i) (0)
 ·repeat' (first|exact Wf|apply Wd rfl|apply We rfl)
 ·exact ⟨Nat.zero_le _,hr⟩
 ·exact by5
 ·exact (Xp _)
 rintro i hI
 try dsimp only [List.cons_append,List.nil_append] at hI ⊢
 obtain ⟨hi,hf⟩:=hI
 refine Qan ?_;intro c15 h15
 refine Qy ?_
 obtain ⟨rfl,g15⟩|⟨rfl,g15⟩:=Za h15
 ·refine Qa3 ?_
  refine QcB ?_
  rw [Wh by17,conJ] at hf
  subst hf
  exact out_ttt U U U U (Xu _) (Xp _) ⟨U,U⟩
 refine Qk ?_
 obtain ⟨⟨qs,qps,qcs,qdv,qp⟩,hxq⟩:=Zj (l:=da) (i:=i) by8
 have hcq:=Da.cellss_get hxq
 have hmq:=Wg hxq
 rw [Zz hxq,conJ] at hf
 have HFq:=HF qcs
 have hf:(if findI (fun (c:Cn)=>sameB c.s s) qcs 0<0 then conJ s (da.drop (i+1)) (i+1) else some (i,(findI (fun (c:Cn)=>sameB c.s s) qcs 0).toNat))=r:=hf
 obtain ⟨fi,hfi⟩:∃ fi,findI (fun (c:Cn)=>sameB c.s s) qcs 0=fi:=⟨_,rfl⟩
 rw [hfi] at HFq hf
 clear hfi
 obtain ⟨c25,hc25⟩:∃ c,decide (0≤fi)=c:=⟨_,rfl⟩
 rw [hc25] at HFq
 refine Qh ?_
 refine QfH ?_
 refine Qed ?_
 refine Qd1 ?_;intro b8
 refine QJ ?_
 refine Qee ?_
 refine Qbw ?_
 refine Qdi ?_
 refine Zb 23 U U U (Zd (xs:=[.tmp 21,.tmp 22]) U U (HFq) by2 ?_)
 refine Qa0 ?_
 refine QK ?_
 refine Qa ?_
 rcases c25 with _|_
 ·refine Qbu ?_
  have h0:¬ 0≤fi:=by simpa using hc25
  rw [if_pos by17] at hf
  exact ⟨i+1,⟨by show i+1≤da.length;omega,hf⟩,by show da.length - (i+1)<da.length - i;omega,by5,by4⟩
 refine Qb0 ?_
 refine QcB ?_
 have h0:0≤fi:=by simpa using hc25
 rw [if_neg by17] at hf
 subst hf
 exact out_ttt U U U U (Le.tup (Xw (Xu _) (Xw (Le.ieq by17) (Xv _)))) (Xp _) ⟨U,U⟩
theorem conJ_none {s:ByteArray}:∀ {l:List Da} {i:Nat},conC s l=none→conJ s l i=none
 | [],_,_=>rfl
 | d::l,i,h=>by
  rw [conC] at h
  rw [conJ]
  by_cases q:findI (fun (c:Cn)=>sameB c.s s) d.cs 0<0
  ·rw [if_pos q] at h ⊢
   exact conJ_none h
  rw [if_neg q] at h
  obtain ⟨y,h1,_⟩:=findI_get (fun (c:Cn)=>sameB c.s s) d.cs 0 by17
  have h1:d.cs[(findI (fun (c:Cn)=>sameB c.s s) d.cs 0).toNat]?=some y:=by simpa using h1
  rw [h1] at h
  simp at h
theorem conJ_some {s:ByteArray} {d:Da} {c:Cn}:∀ {l:List Da} {i0:Nat},conC s l=some (d,c)→∃ i k:Nat,conJ s l i0=some (i0+i,k)∧l[i]?=some d∧d.cs[k]?=some c
 | [],_,h=>by simp [conC] at h
 | e::l,i0,h=>by
  rw [conC] at h
  rw [conJ]
  by_cases q:findI (fun (c:Cn)=>sameB c.s s) e.cs 0<0
  ·rw [if_pos q] at h ⊢
   obtain ⟨i,k,h1,h2,h3⟩:=conJ_some (i0:=i0+1) h
   exact ⟨i+1,k,by rw [h1];congr 2;omega,by simpa using h2,h3⟩
  rw [if_neg q] at h ⊢
  cases hc:e.cs[(findI (fun (c:Cn)=>sameB c.s s) e.cs 0).toNat]? with
  | none=>rw [hc] at h;simp at h
  | some y =>
   rw [hc] at h
   cases h
   exact ⟨0,_,U,U,hc⟩
theorem tCon_none (v:En) (s:ByteArray) (h:conC s v.da=none):PCall Tryz.prog 144 [.agg v.cells,.val (.string s)] (.tup [.val (.int .i64 0),.val (.int .i64 0),.val (.bool false)]):=by
 have:=tCon_c v s
 rw [conJ_none h] at this
 exact this
theorem tCon_some (v:En) (s:ByteArray) (d:Da) (c:Cn) (h:conC s v.da=some (d,c)):∃ i k:Nat,PCall Tryz.prog 144 [.agg v.cells,.val (.string s)] (.tup [.val (.int .i64 i),.val (.int .i64 k),.val (.bool true)])∧v.da[i]?=some d∧d.cs[k]?=some c:=by
 obtain ⟨i,k,h1,h2,h3⟩:=conJ_some (i0:=0) h
 have:=tCon_c v s
 rw [h1,Nat.zero_add] at this
 exact ⟨i,k,this,h2,h3⟩
def conQ (v:En) (f:Co→Ty × Bool) (s:ByteArray) (ts:List Ty) (ks:List Co):Ty × Bool:=match conC s v.da with
 | none=>(tyZ,false)
 | some (d,c)=>if d.ps.length=ts.length∧okL f ks (c.ts.map (Ty.turn (putO d.ps ts)))=true then (.mk 3 d.s 0 ts,true) else (tyZ,false)
theorem coCon_c (v:En) (pm:List Pm) (sc:List Cb) (vs:List ByteArray) (f:Co→Ty × Bool) (k m:Int) (s:ByteArray) (t:Ty) (ts:List Ty) (ks:List Co) (al:List Ca) (bs:List Cb) (H:∀ x∈ks,TypC v pm sc vs x (f x)) (hts:∀ t∈ts,t.wd) (htl:ts.length≤100000000) (hv:∀ d∈v.da,∀ c∈d.cs,(∀ t∈c.ts,t.wd)∧c.ts.length≤90000000000) :
    PCall Tryz.prog 84 [.agg (ckC v (Pm.cellss pm) sc vs),.agg (Co.mk k s m t ts ks al bs).cells] (.tup [.agg (conQ v f s ts ks).1.cells,.val (.bool (conQ v f s ts ks).2)]):=by
 have hlt:=Ty.cellss_len ts
 obtain ⟨tk,tn,tm,tl⟩:=t
 obtain ⟨r,hr⟩:∃ r,conQ v f s ts ks=r:=⟨_,rfl⟩
 rw [hr]
 unfold conQ at hr
 cases hc:conC s v.da with
 | none =>
  rw [hc] at hr
  subst hr
  have HC:=tCon_none v s hc
  clear H hv hc
  obtain ⟨da,cl,ins⟩:=v
  unfold ckC at *
  simp only [En.cells,List.cons_append,List.nil_append] at *
  refine Zc Tryz.func84 U (by kernel_rfl) U (Wc U) ?_
  refine Qc8 ?_;intro b4
  refine Qs ?_
  refine Qc9 ?_
  refine Zb 15 U U U (Zd (xs:=[.tmp 12,.tmp 14]) U U (HC) by2 ?_)
  refine QcY ?_
  refine QcA ?_
  refine QcZ ?_;intro c20 h20
  try replace h20:=Ym h20 h18
  refine Qa ?_
  obtain ⟨rfl,g20⟩|⟨rfl,g20⟩:=Za h20
  ·refine Qp ?_
   exact absurd g20 by18
  refine Qc7 ?_
  exact Zy (i:=0) U U U U Zx U by1 (Xp _) ⟨U,U⟩
 | some dc =>
  obtain ⟨⟨ds,dps,dcs,ddv,dp⟩,⟨cs,cts,cp⟩⟩:=dc
  rw [hc] at hr
  have hr:(if dps.length=ts.length∧okL f ks (cts.map (Ty.turn (putO dps ts)))=true then (Ty.mk 3 ds 0 ts,true) else (tyZ,false))=r:=hr
  obtain ⟨i,j,HC,hi,hj⟩:=tCon_some v s _ _ hc
  have hj:dcs[j]?=some (.mk cs cts cp):=hj
  obtain ⟨hv1,hv2⟩:=hv _ (Wg hi) _ (Wg hj)
  have HP:=coPut_c dps ts cts hts hv1 hv2
  have HO:=coOf_c v pm sc vs f ks (cts.map (Ty.turn (putO dps ts))) H
  have HN:=Con_c ds ts htl
  have hci:=Da.cellss_get hi
  have hcj:=Cn.cellss_get hj
  have hlp:=Ya dps
  generalize cts.map (Ty.turn (putO dps ts))=A at *
  generalize okL f ks A=w at *
  clear H hv hc
  obtain ⟨da,cl,ins⟩:=v
  unfold ckC at *
  simp only [En.cells,En.da,List.cons_append,List.nil_append] at *
  refine Zc Tryz.func84 U (by kernel_rfl) U (Wc U) ?_
  refine Qc8 ?_;intro b4
  refine Qs ?_
  refine Qc9 ?_
  refine Zb 15 U U U (Zd (xs:=[.tmp 12,.tmp 14]) U U (HC) by2 ?_)
  refine QcY ?_
  refine QcA ?_
  refine QcZ ?_;intro c20 h20
  try replace h20:=Ym h20 h18
  refine Qa ?_
  obtain ⟨rfl,g20⟩|⟨rfl,g20⟩:=Za h20
  ·refine QV ?_
   refine QaR ?_
   refine QT ?_
   refine QfK ?_
   refine Qed ?_
   refine Qd1 ?_;intro b9
   refine Qee ?_
   refine Qdr ?_
   refine c_boold 52 (¬ (dps.length=ts.length∧w=true)) Yx U ?_ _ _ U ?_
   ·skip
    refine Qbv ?_
    refine QfL ?_
    refine Q3 ?_
    refine Qfy ?_
    refine Yj 34 U U (fun _ q=>op_neq U U U q) ?_;intro c34 h34
    refine QF ?_
    obtain ⟨rfl,g34⟩|⟨rfl,g34⟩:=Za h34
    ·skip
     refine QfM ?_
     refine Qap ?_
     refine Qdx ?_
     refine Qap ?_
     refine Qdx ?_
     refine QaT ?_
     refine QgD ?_
     refine Qap ?_
     refine Ye 49 U U U U (Zd (xs:=[.tmp 40,.tmp 42,.tmp 48]) U U (HP) by2 ⟨U,U⟩) ?_
     refine Yk 50 U U U U (fun _ q=>Zg (xs:=[.tmp 36,.tmp 38,.tmp 49]) U U (HO) by2 q) ?_;intro c50 h50
     refine Yk 51 U U U U (fun _ q=>Yz U U q) ?_;intro c51 h51
     try replace h51:=Ym h51 h50
     refine QH ?_
     show BoolQ _ _ _ _ _ _
     refine Wa U ?_ by6 by4
     clear HP HO HN HC;first|(simp_all;done)|grind
    skip
    refine Qaf ?_
    refine Qaf ?_
    refine QH ?_
    show BoolQ _ _ _ _ _ _
    refine Wa U ?_ by6 by4
    clear HP HO HN HC;first|(simp_all;done)|grind
   intro c52 h52
   refine Qc ?_
   obtain ⟨rfl,g52⟩|⟨rfl,g52⟩:=Za h52
   ·refine QV ?_
    refine Qn ?_
    refine Qd ?_
    refine Zb 58 U U U (Zd (xs:=[.tmp 55,.tmp 57]) U U (HN) by2 ?_)
    refine Qaa ?_
    rw [if_pos (Classical.not_not.1 g52)] at hr
    subst hr
    exact Zy (i:=1) U U U U Zx U by1 (Xp _) ⟨U,U⟩
   refine QcU ?_
   refine Qaa ?_
   rw [if_neg g52] at hr
   subst hr
   exact Zy (i:=1) U U U U Zx U by1 (Xp _) ⟨U,U⟩
  refine QM ?_
  exact absurd g20 by18
def primQ (pm:List Pm) (f:Co→Ty × Bool) (m:Int) (ts:List Ty) (ks:List Co):Ty × Bool:=if m<1∨pm.length<m then (tyZ,false) else match pm[(m - 1).toNat]? with
 | none=>(tyZ,false)
 | some p=>if p.sc.vs.length=ts.length∧okL f ks (p.sc.t.args.map (Ty.turn (putO p.sc.vs ts)))=true then (p.sc.t.ans.turn (putO p.sc.vs ts),true) else (tyZ,false)
theorem coPrim_c (v:En) (pm:List Pm) (sc:List Cb) (vs:List ByteArray) (f:Co→Ty × Bool) (k m:Int) (s:ByteArray) (t:Ty) (ts:List Ty) (ks:List Co) (al:List Ca) (bs:List Cb) (H:∀ x∈ks,TypC v pm sc vs x (f x)) (hts:∀ t∈ts,t.wd) (hpm:∀ p∈pm,p.sc.t.size≤1000) :
    PCall Tryz.prog 91 [.agg (ckC v (Pm.cellss pm) sc vs),.agg (Co.mk k s m t ts ks al bs).cells] (.tup [.agg (primQ pm f m ts ks).1.cells,.val (.bool (primQ pm f m ts ks).2)]):=by
 have hlt:=Ty.cellss_len ts
 have hlp:=Pm.cellss_len pm
 obtain ⟨tk,tn,tm,tl⟩:=t
 obtain ⟨r,hr⟩:∃ r,primQ pm f m ts ks=r:=⟨_,rfl⟩
 rw [hr]
 unfold primQ at hr
 by_cases hm:m<1∨pm.length<m
 ·rw [if_pos hm] at hr
  subst hr
  clear H
  generalize hpg:Pm.cellss pm=pg at *
  obtain ⟨da,cl,ins⟩:=v
  unfold ckC at *
  simp only [En.cells,List.cons_append,List.nil_append] at *
  refine Zc Tryz.func91 U (by kernel_rfl) U (Wc U) ?_
  refine Qc8 ?_;intro b4
  refine Q1 ?_
  refine Zw 19 (m<1∨pm.length<m) ?_ _ _ U ?_
  ·skip
   refine Qd ?_
   refine Qg ?_;intro c11 h11
   refine Qb ?_
   obtain ⟨rfl,g11⟩|⟨rfl,g11⟩:=Za h11
   ·skip
    refine QA ?_
    refine QA ?_
    refine QfN ?_;intro n17
    refine Qcp ?_;intro c18 h18
    refine Qm ?_
    refine Wa U ?_ by6 by4
    first|(simp_all;done)|(simp_all;omega)|grind
   skip
   refine Qcz ?_
   refine Wa U ?_ by6 by4
   first|(simp_all;done)|(simp_all;omega)|grind
  intro c19 h19
  refine Qc ?_
  obtain ⟨rfl,g19⟩|⟨rfl,g19⟩:=Za h19
  ·refine Qp ?_
   exact absurd hm g19
  refine Qc7 ?_
  exact Zy (i:=0) U U U U Zx U by1 (Xp _) ⟨U,U⟩
 rw [if_neg hm] at hr
 obtain ⟨⟨qs,qo,qn,⟨qvs,qps,⟨qk,qss,qm,ql⟩⟩⟩,hq⟩:=Zj (l:=pm) (i:=(m - 1).toNat) by17
 rw [hq] at hr
 have hr:(if qvs.length=ts.length∧okL f ks ((Ty.mk qk qss qm ql).args.map (Ty.turn (putO qvs ts)))=true then ((Ty.mk qk qss qm ql).ans.turn (putO qvs ts),true) else (tyZ,false))=r:=hr
 have hcq:=Pm.cellss_get hq
 have hz:(Ty.mk qk qss qm ql).size≤1000:=hpm _ (Wg hq)
 have HA:=Args_c (.mk qk qss qm ql) by17
 have hTK:=TK.size (t:=.mk qk qss qm ql) (d:=1000) hz by16
 obtain ⟨a1,a2,a3⟩:=args_dp _ (.mk qk qss qm ql) (Nat.le_refl _)
 have HP:=coPut_c qvs ts (Ty.mk qk qss qm ql).args hts (fun u hu=>(a2 u hu _ hTK).1) (by have:=hTK.2;omega)
 have HU:=PutW_c qvs ts (Ty.mk qk qss qm ql).ans hts (a3 _ hTK).1
 have HO:=coOf_c v pm sc vs f ks ((Ty.mk qk qss qm ql).args.map (Ty.turn (putO qvs ts))) H
 have hlv:=Ya qvs
 clear a1 a2 a3 hTK hz H hpm
 generalize (Ty.mk qk qss qm ql).args.map (Ty.turn (putO qvs ts))=B at *
 generalize (Ty.mk qk qss qm ql).args=A at *
 obtain ⟨⟨yk,ys,yn,yl⟩,hy⟩:∃ y,(Ty.mk qk qss qm ql).ans.turn (putO qvs ts)=y:=⟨_,rfl⟩
 rw [hy] at HU hr
 clear hy
 generalize (Ty.mk qk qss qm ql).ans=N at *
 obtain ⟨nk,ns,nn,nl⟩:=N
 generalize okL f ks B=w at *
 generalize hpg:Pm.cellss pm=pg at *
 obtain ⟨da,cl,ins⟩:=v
 unfold ckC at *
 simp only [En.cells,List.cons_append,List.nil_append] at *
 refine Zc Tryz.func91 U (by kernel_rfl) U (Wc U) ?_
 refine QN ?_
 refine c_lena (t:=0) (j:=5) U U (.seq _ _) (fun hmax=>?_)
 refine Ql ?_
 refine Qem ?_
 refine Qdh ?_
 refine QE ?_;intro b4
 refine Q1 ?_
 refine Zw 19 (m<1∨pm.length<m) ?_ _ _ U ?_
 ·skip
  refine Qd ?_
  refine Qg ?_;intro c11 h11
  refine Qb ?_
  obtain ⟨rfl,g11⟩|⟨rfl,g11⟩:=Za h11
  ·skip
   refine QA ?_
   refine QA ?_
   refine QfN ?_;intro n17
   refine Qcp ?_;intro c18 h18
   refine Qm ?_
   refine Wa U ?_ by6 by4
   first|(simp_all;done)|(simp_all;omega)|grind
  skip
  refine Qcz ?_
  refine Wa U ?_ by6 by4
  first|(simp_all;done)|(simp_all;omega)|grind
 intro c19 h19
 refine Qc ?_
 obtain ⟨rfl,g19⟩|⟨rfl,g19⟩:=Za h19
 ·refine QV ?_
  refine Qd ?_
  refine Qd ?_
  refine Qay ?_
  refine QgE ?_
  refine Zb 27 U U U (Zt (cs':=[_,_,_,_,_,_,_,_,_]) U ta_187 U U U (Zb 6 U U U (Yb (cs':=[_,_,_,_,_,_,_,_,_]) U tz_187 U U ?_)));intro b6
  refine Zr U U (Zp (cs':=[_,_,_,_,_,_,_,_,_]) (i:=0) U ts_187 U U U U U (Wc U) U ?_)
  refine Qa8 ?_
  refine Qt ?_
  refine Qn ?_
  refine QbB ?_;intro n31
  refine Qd ?_
  refine QY ?_;intro n34
  refine QP ?_;intro c35 h35
  refine Qa ?_
  obtain ⟨rfl,g35⟩|⟨rfl,g35⟩:=Za h35
  ·refine QV ?_
   refine Qt ?_
   refine Qt ?_
   refine Q9 ?_
   refine Zb 41 U U U (Zd (xs:=[.tmp 40]) U U (HA) by2 ?_)
   refine QdA ?_;intro b8
   refine QJ ?_
   refine QO ?_
   refine Qdr ?_
   refine Q6 ?_
   refine QgF ?_
   refine Q3 ?_
   refine QbR ?_
   refine QbR ?_
   refine QdM ?_
   refine QaF ?_
   refine Zq 53 U U (Zd (xs:=[.tmp 49,.tmp 51,.tmp 52]) U U (HP) by2 ⟨U,U⟩) ?_
   refine Yj 54 U U (fun _ q=>Zg (xs:=[.tmp 44,.tmp 46,.tmp 53]) U U (HO) by2 q) ?_;intro c54 h54
   refine Yj 55 U U (fun _ q=>Yz U U q) ?_;intro c55 h55
   try replace h55:=Ym h55 h54
   show AGo _ _ _ _ _ _ _
   refine Qc ?_
   obtain ⟨rfl,g55⟩|⟨rfl,g55⟩:=Za h55
   ·refine QV ?_
    refine Qt ?_
    refine Qao ?_
    refine Qd ?_
    refine Q9 ?_
    refine Zb 63 U U U (Zd (xs:=[.tmp 59,.tmp 61,.tmp 62]) U U (HU) by2 ?_)
    refine QcD ?_
    rw [if_pos ⟨by omega,Classical.not_not.1 g55⟩] at hr
    subst hr
    exact Zy (i:=2) U U U U Zx U by1 (Xp _) ⟨U,U⟩
   refine QcU ?_
   refine QcD ?_
   rw [if_neg (fun q=>g55 q.2)] at hr
   subst hr
   exact Zy (i:=2) U U U U Zx U by1 (Xp _) ⟨U,U⟩
  refine QcU ?_
  refine Qaa ?_
  rw [if_neg (fun q=>g35 by17)] at hr
  subst hr
  exact Zy (i:=1) U U U U Zx U by1 (Xp _) ⟨U,U⟩
 refine QM ?_
 exact absurd g19 hm
structure EnT (v:En):Prop where
 su:∀ c∈v.cl,∀ u∈c.su,u.size≤1000000000000
 sl:∀ c∈v.cl,c.su.length≤1000000∧c.ms.length≤1000000
 mt:∀ c∈v.cl,∀ m∈c.ms,m.t.size≤9000
 ct:∀ d∈v.da,∀ c∈d.cs,c.ts.length≤1000000∧∀ t∈c.ts,t.size≤9000
theorem classI_hit {v:En} {s:ByteArray} (h:0≤classI v s):∃ c,v.cl[(classI v s).toNat]?=some c∧c.s=s:=by
 obtain ⟨y,h1,h2,_⟩:=findI_get (fun (c:Cl)=>sameB c.s s) v.cl 0 h
 exact ⟨y,h1,Yt.1 h2⟩
theorem coParts_none (v:En) (s:ByteArray) (t:Ty) (h:partsC v s t=none):PCall Tryz.prog 92 [.agg v.cells,.val (.string s),.agg t.cells] (.tup [.seq 4 [],.val (.bool false)]):=by
 have HC:=tClass_c v s
 have hc:¬ 0≤classI v s:=fun q=>by
  unfold partsC at h
  obtain ⟨c,h1,_⟩:=classI_hit q
  rw [if_neg by17,h1] at h
  simp at h
 rw [decide_eq_false hc] at HC
 generalize classI v s=i at *
 obtain ⟨tk,tn,tm,tl⟩:=t
 obtain ⟨da,cl,ins⟩:=v
 simp only [En.cells] at *
 refine Zc Tryz.func92 U (by kernel_rfl) U (Wc U) ?_
 refine Qar ?_
 refine QcE ?_
 refine Qdw ?_
 refine Qb ?_
 refine Zb 18 U U U (Zd (xs:=[.tmp 16,.tmp 17]) U U (HC) by2 ?_)
 refine Qa0 ?_
 refine QcZ ?_;intro c22 h22
 try replace h22:=Ym h22 h20
 refine Qa ?_
 obtain ⟨rfl,g22⟩|⟨rfl,g22⟩:=Za h22
 ·refine Qp ?_
  exact absurd g22 by18
 refine QaZ ?_
 exact Yn U U U (Le.tup (Xw (Xx 4) (Xv _))) (Xp _) ⟨U,U⟩
theorem coParts_some (v:En) (hv:EnT v) (s:ByteArray) (t:Ty) (ht:t.wd) (l:List Ty) (h:partsC v s t=some l):PCall Tryz.prog 92 [.agg v.cells,.val (.string s),.agg t.cells] (.tup [.seq 4 (Ty.cellss l),.val (.bool true)]):=by
 have HC:=tClass_c v s
 have hc:0≤classI v s:=by
  unfold partsC at h
  by_cases q:classI v s<0
  ·rw [if_pos q] at h;simp at h
  omega
 obtain ⟨⟨ys,yv,ysu,yms,yds,yp⟩,hy,_⟩:=classI_hit hc
 rw [decide_eq_true hc] at HC
 have hmy:=Wg hy
 unfold partsC at h
 rw [if_neg by17,hy] at h
 have h:ysu.map (fun u=>starC u t)++yms.map (fun m=>m.t.turn (putO [yv] [t]))=l:=Option.some.inj h
 obtain ⟨hl1,hl2⟩:=hv.sl _ hmy
 have hl1:ysu.length≤1000000:=hl1
 have hl2:yms.length≤1000000:=hl2
 have hsz:∀ u∈ysu,u.size≤1000000000000:=hv.su _ hmy
 have HP:=fun (m:Me) (hm:m∈yms)=>PutW_c [yv] [t] m.t (by simpa using ht) (Ty.size_wd _ m.t (Nat.le_refl _) (by have:m.t.size≤9000:=hv.mt _ hmy m hm;omega))
 have HN:=fun u:ByteArray=>Con_c (kBr++u) [t] by18
 have hcy:=Cl.cellss_get hy
 rw [show max (classI v s) 0=((classI v s).toNat:Int) by omega] at HC
 generalize (classI v s).toNat=i at *
 have hls:=Ya ysu
 have hlm:=Me.cellss_len yms
 have hk:kBr.size=1:=rfl
 have hk2:(⟨#[123]⟩:ByteArray).size=1:=rfl
 clear hv hc
 generalize hF:Ty.turn (putO [yv] [t])=F at *
 obtain ⟨tk,tn,tm,tl⟩:=t
 obtain ⟨da,cl,ins⟩:=v
 simp only [En.cells,En.cl,starC] at *
 refine Zc Tryz.func92 U (by kernel_rfl) U (Wc U) ?_
 refine Qar ?_
 refine QcE ?_
 refine Qdw ?_
 refine Qb ?_
 refine Zb 18 U U U (Zd (xs:=[.tmp 16,.tmp 17]) U U (HC) by2 ?_)
 refine Qa0 ?_
 refine QcZ ?_;intro c22 h22
 try replace h22:=Ym h22 h20
 refine Qa ?_
 obtain ⟨rfl,g22⟩|⟨rfl,g22⟩:=Za h22
 ·refine QV ?_
  refine Qbi ?_
  refine QT ?_
  refine QfO ?_
  refine Qd ?_
  refine QbB ?_;intro n29
  refine Qam ?_
  refine Yp 24 4 ?_
  apply Yl (rg [(0,3),(4,1),(9,5),(15,13),(30,13)]) (σ:=Nat × List Ty × Value) (fun zz=>match zz with|(n,out,u)=>[(10,.own u 4 (Ty.cellss out)),(30,.val (.int .i64 n))]) (fun zz=>match zz with|(n,out,u)=>[.own 24 4 u]) (fun zz=>match zz with|(n,out,u)=>n≤ysu.length∧out=(ysu.take n).map fun u=>Ty.mk 3 (kBr++u) 0 [.mk tk tn tm tl]) (fun zz=>match zz with|(n,out,u)=>ysu.length - n) ((0,[],.slice none 0 0))
  ·repeat' (first|exact Wf|apply Wd rfl|apply We rfl)
  ·exact ⟨Nat.zero_le _,U⟩
  ·exact Xy U (Le.nilOwn 4) (Xy U (Xu _) by5)
  ·exact (Xt U)
  rintro ⟨n,out,u⟩ hI
  try dsimp only [List.cons_append,List.nil_append] at hI ⊢
  obtain ⟨hn,ho⟩:=hI
  have hol:(Ty.cellss out).length=n:=by rw [Ty.cellss_len,ho,List.length_map,List.length_take];omega
  refine Qan ?_;intro c31 h31
  refine Qy ?_
  obtain ⟨rfl,g31⟩|⟨rfl,g31⟩:=Za h31
  ·refine Qbs ?_
   rw [List.take_of_length_le by17] at ho
   rw [← ho] at h
   refine Qa5 ?_
   refine QfO ?_
   refine Qd ?_
   refine Qes ?_;intro n49
   refine Qam ?_
   apply Yl (rg [(0,3),(4,1),(9,39),(50,20)]) (σ:=Nat × List Ty × Value) (fun zz=>match zz with|(n,o2,u)=>[(10,.own u 4 (Ty.cellss o2)),(50,.val (.int .i64 n))]) (fun zz=>match zz with|(n,o2,u)=>[.own 24 4 u]) (fun zz=>match zz with|(n,o2,u)=>n≤yms.length∧o2=out++(yms.take n).map fun m=>F m.t) (fun zz=>match zz with|(n,o2,u)=>yms.length - n) ((0,out,u))
   ·repeat' (first|exact Wf|apply Wd rfl|apply We rfl)
   ·exact ⟨Nat.zero_le _,by simp⟩
   ·exact by5
   ·exact by4
   rintro ⟨n,o2,u⟩ hI
   try dsimp only [List.cons_append,List.nil_append] at hI ⊢
   obtain ⟨hn2,ho2⟩:=hI
   have hol2:(Ty.cellss o2).length=out.length+n:=by rw [Ty.cellss_len,ho2,List.length_append,List.length_map,List.length_take];omega
   have hol3:out.length≤1000000:=by rw [ho,List.length_map];omega
   refine Qan ?_;intro c51 h51
   refine Qy ?_
   obtain ⟨rfl,g51⟩|⟨rfl,g51⟩:=Za h51
   ·refine QcP ?_
    refine Q0 ?_
    refine Qac ?_
    rw [List.take_of_length_le by17] at ho2
    rw [← h,← ho2]
    exact Yn U U U (Le.tup (Xw (Le.own _ _ _) (Xv _))) (Xp _) ⟨U,U⟩
   refine Qk ?_
   obtain ⟨⟨xs,⟨xtk,xts,xtn,xtl⟩,xp⟩,hxx⟩:=Zj (l:=yms) (i:=n) by8
   have hcx:=Me.cellss_get hxx
   have hmx:=Wg hxx
   refine Qi ?_
   refine Zb 52 U U U (Zh U te_116 U (.seq _ _) U U (hcx) ?_)
   refine Qgp ?_
   refine Qgq ?_;intro b14
   refine Qgr ?_
   refine Qa ?_
   have HPx:=HP _ hmx
   obtain ⟨⟨rk,rs,rn,rl⟩,hr⟩:∃ r,F ⟨xtk,xts,xtn,xtl⟩=r:=⟨_,rfl⟩
   have HPx:PCall Tryz.prog 82 [.seq 1 (strs [yv]),.seq 4 (Ty.cellss [.mk tk tn tm tl]),.agg (Ty.mk xtk xts xtn xtl).cells] (.agg (F ⟨xtk,xts,xtn,xtl⟩).cells):=HPx
   rw [hr] at HPx
   refine Yh [0,1,2,3,4,5,6,7,8,9,10,11,12,13,14,15] [14] [[],[],[1],[],[1,2,3],[1,2,3,4],[1,2,3,4,5],[1,2,3,4,5,6],[],[8],[],[10],[1,2,3,4,5,6,7,8,9,10,11],[1,2,3,4,5,6,7,8,9,10,11,12],[0,1,2,3,4,5,6,7,8,9,10,11,12,13],[0,1,2,3,4,5,6,7,8,9,10,11,12,13,14]] Yx U ?_
   refine Qw ?_
   refine QaL ?_
   refine Qw ?_
   refine Zi 58 (none) (i:=4) U U U U U (Zh U te_38 U (.seq _ _) U U (hcy) ⟨U,U⟩) ?_
   refine QaL ?_
   refine Zi 61 (none) (i:=7) U U U U U (Zf (xs:=[.tmp 60]) Yy U U U U U U (Wc U) ⟨U,U⟩) ?_
   refine QbT ?_
   refine Zi 63 (none) (i:=9) U U U U U (Zf (xs:=[.tmp 62]) Xj U U U U U U (Wc U) ⟨U,U⟩) ?_
   refine QW ?_
   refine QdP ?_
   refine Zi 66 (none) (i:=12) U U U U U (Zd (xs:=[.tmp 61,.tmp 63,.tmp 65]) U U (HPx) by2 ⟨U,U⟩) ?_
   refine Zi 67 (none) (i:=13) U U U U U (Zf (xs:=[.tmp 66]) Xj U U U U U U (Wc U) ⟨U,U⟩) ?_
   refine Yc 1 (i:=14) U U U U U (Zv (i:=0) Xj U U U U (.seq _ _) by7 (fun u68=>⟨_,U,?_⟩))
   refine QZ ?_
   show AGo _ _ _ _ _ _ _
   refine QcC ?_
   exact ⟨(n+1,o2++[⟨rk,rs,rn,rl⟩],u68),⟨by show n+1≤yms.length;omega,by show o2++[_]=_;rw [Yd hxx,List.map_append,← List.append_assoc,← ho2,← hr];rfl⟩,by show yms.length - (n+1)<yms.length - n;omega,Xy U (Wb (by rw [Ty.cellss_app];rfl)) by5,by4⟩
  refine Qk ?_
  obtain ⟨x,hxx⟩:=Zj (l:=ysu) (i:=n) by8
  have hcx:=Xc hxx
  have hmx:=Wg hxx
  refine Qi ?_
  refine QfJ ?_
  refine QaG ?_
  refine Qj ?_
  have HNx:=HN x
  have hzx:=hsz x hmx
  refine Q8 ?_
  refine QfP ?_
  refine Q7 ?_
  refine Zb 38 U U U (Zf (xs:=[.tmp 37]) Xj U U U U U U (Wc U) (Zb 39 U U U (Zd (xs:=[.tmp 36,.tmp 38]) U U (HNx) by2 ?_)))
  refine Zb 40 U U U (Zf (xs:=[.tmp 39]) Xj U U U U U U (Wc U) ?_)
  refine Qgi ?_
  intro u41
  refine Qcw ?_
  refine QcC ?_
  exact ⟨(n+1,out++[Ty.mk 3 (kBr++x) 0 [.mk tk tn tm tl]],u41),⟨by show n+1≤ysu.length;omega,by show out++[_]=_;rw [Yd hxx,List.map_append,← ho];rfl⟩,by show ysu.length - (n+1)<ysu.length - n;omega,Xy U (Wb (by rw [Ty.cellss_app];rfl)) by5,by4⟩
 refine QM ?_
 exact absurd g22 by18
theorem ArgsL_c (t:Ty) (hmx:t.args.length≤90000000000):PCall Tryz.prog 85 [.agg t.cells] (.tup [.seq 4 (Ty.cellss t.args),.agg t.ans.cells]):=by
 have has:=hmx
 obtain ⟨k,s,n,ks⟩:=t
 refine Zc Tryz.func85 U (by kernel_rfl) U (Wc U) ?_
 refine Qa9 ?_;intro b1
 refine QJ ?_
 refine QE ?_;intro b3
 refine Qu ?_
 refine Qcc ?_
 refine ACode.ownNil (t:=4) 24 4 U ?_
 refine Xk (σ:=Ty × List Ty × Value) (fun zz=>match zz with|(c,dn,u)=>[(1,.ptr b1 0),(3,.ptr b3 0),(4,.own u 4 (Ty.cellss dn))]) (fun zz=>match zz with|(c,dn,u)=>[.own 24 4 u,.loc b3 [.val (.int .i64 0),.val (.string ⟨#[]⟩),.val (.int .i64 0),.val (.slice none 0 0)],.loc b1 c.cells]) (fun zz=>match zz with|(c,dn,u)=>dn++c.args=Ty.args (.mk k s n ks)∧c.ans=Ty.ans (.mk k s n ks)) (fun zz=>match zz with|(c,dn,u)=>c.size) ((.mk k s n ks,[],.slice none 0 0)) ?_ ?_ ?_ ?_
 ·exact ⟨U,U⟩
 ·exact by5
 ·exact by4
 rintro ⟨⟨ck,cs,cn,cks⟩,dn,u⟩ hI
 try dsimp only [List.cons_append,List.nil_append] at hI ⊢
 obtain ⟨ha,hb⟩:=hI
 refine Q2 ?_
 refine Ql ?_
 refine Qcq ?_
 refine Zb 6 U U U (Zg (xs:=[.tmp 5]) U U (fun_c (.mk ck cs cn cks)) by2 ?_);intro c6 h6
 refine Qa ?_
 obtain ⟨rfl,g6⟩|⟨rfl,g6⟩:=Za h6
 ·refine Qag ?_
  rw [Ty.args_not g6] at ha
  rw [Ty.ans_not g6] at hb
  refine Yh [0,1,2,3] [3] [[],[],[0],[0,1,2]] Yx U ?_
  refine Qw ?_
  refine Qer ?_
  refine QZ ?_
  refine QcL ?_
  show AGo _ _ _ _ _ _ _
  refine QI ?_
  rw [← ha,← hb]
  exact out_tc (i:=1) U U U U Zx U (by repeat' (first|exact Xu _|exact Le.own _ _ _|exact Xx _|refine Le.agg ?_|refine Le.tup ?_|exact Xv _|refine Xw ?_ ?_|(refine Wb ?_;simp)|(refine Le.own_seq ?_;simp)|(refine Le.seq_eq ?_;simp))) by4 ⟨U,U⟩
 refine Qdq ?_
 obtain ⟨n',⟨ka,sa,na,kas⟩,⟨kb,sb,nb,kks⟩,e⟩:=Ty.fun_kids g6
 cases e
 rw [Ty.args_fun] at ha
 rw [Ty.ans_fun] at hb
 have hln:=congrArg List.length ha
 simp only [List.length_append,List.length_cons] at hln
 refine Qh ?_
 refine Qb2 ?_
 refine Qfn ?_
 refine Q7 ?_
 refine Qgk ?_
 refine Qgl ?_
 intro u13
 refine Qj ?_
 refine Qi ?_
 refine Qb2 ?_
 refine QeK ?_
 refine Q7 ?_
 refine QdH ?_
 refine Qbc ?_
 exact ⟨(.mk kb sb nb kks,dn++[.mk ka sa na kas],u13),⟨by rw [← ha];simp,hb⟩,by simp [Ty.size,Ty.sizes];omega,(by repeat' (first|exact Xz _|refine Xy U ?_ ?_|exact Xu _|exact Le.own _ _ _|exact Xx _|(refine Wb ?_;(rw [Ty.cellss_app];rfl))|(refine Le.own_seq ?_;(rw [Ty.cellss_app];rfl))|(refine Le.seq_eq ?_;(rw [Ty.cellss_app];rfl)))),by4⟩
def appQ (f x:Ty × Bool):Ty × Bool:=if f.2=true then (match f.1 with
    | .mk 3 _ _ [a,b]=>if f.1.args≠[]∧(x.2 && x.1.eqC a)=true then (b,true) else (tyZ,false)
    | _=>(tyZ,false)) else (tyZ,false)
def dictQ (v:En) (vs:List ByteArray) (f:Co→Ty × Bool) (s:ByteArray) (t:Ty) (ks:List Co):Ty × Bool:=(starC s t,rightC v vs t && match partsC v s t with
 | none=>false
 | some l=>okL f ks l)
def getQ (l:List Ty) (m:Int):Ty × Bool:=if m<0 then (tyZ,false) else match l[m.toNat]? with
 | none=>(tyZ,false)
 | some r=>(r,true)
abbrev PartC (v:En) (pm:List Pm) (sc:List Cb) (vs:List ByteArray) (e:Co) (r:Ty × Bool):Prop:=PCall Tryz.prog 94 [.agg (ckC v (Pm.cellss pm) sc vs),.agg e.cells] (.tup [.agg r.1.cells,.val (.bool r.2)])
abbrev IfT (p:Prop) (t:Ty) (r:Ty × Bool):Prop:=(p→r=(t,true))∧(¬ p→r=(tyZ,false))
abbrev SelG (s:ByteArray) (m:Int) (N:Ty) (c:Bool) (r:Ty × Bool) (P:Ty→List Ty→Bool→Prop):Prop:=(¬ (c=true∧N.kind=3∧N.name=kBr++s∧N.kids.length=1)→r=(tyZ,false))∧(c=true∧N.kind=3∧N.name=kBr++s∧N.kids.length=1→∃ (u:Ty) (l:List Ty) (d:Bool),N.kids=[u]∧P u l d∧(¬ (d=true∧0≤m∧m<l.length)→r=(tyZ,false))∧(d=true∧0≤m∧m<l.length→∃ y,l[m.toNat]?=some y∧r=(y,true)))
theorem len_two {α:Type} {l:List α} (h:l.length=2):∃ a b,l=[a,b]:=by
 match l,h with
 | [a,b],_=>exact ⟨a,b,rfl⟩
theorem getQ_law (m:Int) (o:Option (List Ty)) (r:Ty × Bool) (hr:(match o with
    | none=>(tyZ,false)
    | some l=>getQ l m)=r):(¬ (o.isSome=true∧0≤m∧m<(o.getD []).length)→r=(tyZ,false))∧(o.isSome=true∧0≤m∧m<(o.getD []).length→∃ y,(o.getD [])[m.toNat]?=some y∧r=(y,true)):=by
 cases o with
 | none=>exact ⟨fun _=>hr.symm,fun q=>absurd q.1 by18⟩
 | some l =>
  replace hr:getQ l m=r:=hr
  unfold getQ at hr
  refine ⟨fun q=>?_,fun q=>?_⟩
  ·rw [← hr]
   by_cases q1:m<0
   ·rw [if_pos q1]
   rw [if_neg q1,List.getElem?_eq_none (by
    have:¬ m<l.length:=fun w=>q ⟨rfl,by omega,w⟩
    omega)]
  obtain ⟨_,q1,q2⟩:=q
  replace q2:m<l.length:=q2
  obtain ⟨y,hy⟩:=Zj (l:=l) (i:=m.toNat) by17
  rw [if_neg by17,hy] at hr
  exact ⟨y,hy,hr.symm⟩
theorem coPart_c (v:En) (pm:List Pm) (sc:List Cb) (vs:List ByteArray) (k m:Int) (s:ByteArray) (t:Ty) (ts:List Ty) (ks:List Co) (al:List Ca) (bs:List Cb) (r:Ty × Bool) (hs:s.size≤1000000000000) (h0:¬ ks.length=1→r=(tyZ,false)) (H:∀ x,ks=[x]→∃ (N:Ty) (c:Bool),TypC v pm sc vs x (N,c)∧SelG s m N c r (fun u l d=>PCall Tryz.prog 92 [.agg v.cells,.val (.string s),.agg u.cells] (.tup [.seq 4 (Ty.cellss l),.val (.bool d)]))):PartC v pm sc vs (.mk k s m t ts ks al bs) r:=by
 have hlk:=Co.cellss_len ks
 have hk2:(⟨#[123]⟩:ByteArray).size=1:=rfl
 obtain ⟨tk,tn,tm,tl⟩:=t
 obtain ⟨da,cl,ins⟩:=v
 unfold PartC ckC
 simp only [En.cells,List.cons_append,List.nil_append]
 refine Zc Tryz.func94 U (by kernel_rfl) U (Wc U) ?_
 refine Qc8 ?_;intro b4
 refine Qc6 ?_
 refine Qb9 ?_;intro n11
 refine QP ?_;intro c12 h12
 refine Qa ?_
 obtain ⟨rfl,g12⟩|⟨rfl,g12⟩:=Za h12
 ·refine Qp ?_
  obtain ⟨x,rfl⟩:∃ x,ks=[x]:=List.length_eq_one_iff.1 by17
  obtain ⟨⟨rk,rs,rn,rl⟩,c22,HX,hrz,HF⟩:=H x rfl
  clear H h0
  unfold TypC ckC at HX
  simp only [En.cells,List.cons_append,List.nil_append] at HX
  have hcx:=Co.cellss_get (ts:=[x]) (i:=0) (t:=x) rfl
  have hlr:=Ty.cellss_len rl
  obtain ⟨xk,xs,xn,⟨xtk,xts,xtn,xtl⟩,xus,xks,xal,xbs⟩:=x
  replace hrz:¬ (c22=true∧rk=3∧rs=kBr++s∧rl.length=1)→r=(tyZ,false):=hrz
  refine QdS ?_
  refine QeA ?_
  refine Qda ?_
  refine Zi 20 (none) (i:=5) U U U U U (Zd (xs:=[.tmp 15,.tmp 19]) U U (HX) by2 ⟨U,U⟩) ?_
  refine Qb4 ?_
  refine Xa (i:=9) U U U (Yb (cs':=[_,_,_,_]) U tz_24 U U (fun b6=>⟨_,U,?_⟩))
  refine QcL ?_
  refine QZ ?_
  show AGo _ _ _ _ _ _ _
  refine Qcy ?_
  refine Zw 43 (¬ (c22=true∧rk=3∧rs=kBr++s∧rl.length=1)) ?_ _ _ U ?_
  ·skip
   refine Qbx ?_;intro c24 h24
   try replace h24:=Ym h24 h22
   refine Qb ?_
   obtain ⟨rfl,g24⟩|⟨rfl,g24⟩:=Za h24
   ·skip
    refine Qba ?_
    refine QdI ?_
    refine Qax ?_;intro c28 h28
    refine Qv ?_
    obtain ⟨rfl,g28⟩|⟨rfl,g28⟩:=Za h28
    ·skip
     refine Qba ?_
     refine QdI ?_
     refine QA ?_
     refine Zo 35 U U U U U (op_sadd U U U by17 ?_)
     refine QeS ?_;intro c36 h36
     refine Qv ?_
     obtain ⟨rfl,g36⟩|⟨rfl,g36⟩:=Za h36
     ·skip
      refine Qba ?_
      refine QdI ?_
      refine QbC ?_;intro n41
      refine Qax ?_;intro c42 h42
      refine Qm ?_
      refine Wa U ?_ by6 by4
      clear HX HF hrz;first|(simp_all;done)|grind
     skip
     refine QaX ?_
     refine Wa U ?_ by6 by4
     clear HX HF hrz;first|(simp_all;done)|grind
    skip
    refine Qx ?_
    refine QbH ?_
    refine QaX ?_
    refine Wa U ?_ by6 by4
    clear HX HF hrz;first|(simp_all;done)|grind
   skip
   refine Qb1 ?_
   refine Qx ?_
   refine QbH ?_
   refine QaX ?_
   refine Wa U ?_ by6 by4
   clear HX HF hrz;first|(simp_all;done)|grind
  intro c43 h43
  refine Qc ?_
  obtain ⟨rfl,g43⟩|⟨rfl,g43⟩:=Za h43
  ·refine Qp ?_
   obtain ⟨u,l,d,hu,HP,hr1,hr2⟩:=HF (Classical.not_not.1 g43)
   obtain rfl:rl=[u]:=hu
   have hcu:=Ty.cellss_get (ts:=[u]) (i:=0) (t:=u) rfl
   have hll:=Ty.cellss_len l
   simp only [En.cells] at HP
   clear HX hrz HF
   obtain ⟨uk,us,un,ul⟩:=u
   refine Q6 ?_
   refine QbP ?_
   refine Qct ?_
   refine Q3 ?_
   refine QbR ?_
   refine QdM ?_
   refine QgG ?_
   refine Qb5 ?_
   refine Zq 54 U U (Zd (xs:=[.tmp 47,.tmp 49,.tmp 53]) U U (HP) by2 ⟨U,U⟩) ?_
   refine QF ?_
   refine Qb7 ?_
   refine Qb7 ?_
   refine Qdz ?_
   show AGo _ _ _ _ _ _ _
   refine Qcy ?_
   refine Zw 70 (¬ (d=true∧0≤m∧m<l.length)) ?_ _ _ U ?_
   ·skip
    refine Qbx ?_;intro c58 h58
    try replace h58:=Ym h58 h56
    refine Qb ?_
    obtain ⟨rfl,g58⟩|⟨rfl,g58⟩:=Za h58
    ·skip
     refine QA ?_
     refine Qbn ?_;intro c62 h62
     refine Qv ?_
     obtain ⟨rfl,g62⟩|⟨rfl,g62⟩:=Za h62
     ·skip
      refine Qdu ?_
      refine QbC ?_;intro n68
      refine Qd9 ?_;intro c69 h69
      refine Qm ?_
      refine Wa U ?_ by6 by4
      clear HP hr1 hr2;first|(simp_all;done)|(simp_all;omega)|grind
     skip
     refine QaH ?_
     refine Wa U ?_ by6 by4
     clear HP hr1 hr2;first|(simp_all;done)|(simp_all;omega)|grind
    skip
    refine Qb1 ?_
    refine QaH ?_
    refine Wa U ?_ by6 by4
    clear HP hr1 hr2;first|(simp_all;done)|(simp_all;omega)|grind
   intro c70 h70
   refine Qc ?_
   obtain ⟨rfl,g70⟩|⟨rfl,g70⟩:=Za h70
   ·refine Qp ?_
    have q:=Classical.not_not.1 g70
    obtain ⟨⟨yk,ys,yn,yl⟩,hy,rfl⟩:=hr2 q
    obtain ⟨_,q0,_⟩:=q
    refine Qh ?_
    refine Qd ?_
    refine QgH ?_
    refine Q7 ?_
    refine QO ?_
    refine Qo ?_
    exact Zy (i:=0) U U U U Zx U by1 (Xp _) ⟨U,U⟩
   refine Qc7 ?_
   obtain rfl:=hr1 g70
   exact Zy (i:=0) U U U U Zx U by1 (Xp _) ⟨U,U⟩
  refine Qc7 ?_
  obtain rfl:=hrz g43
  exact Zy (i:=0) U U U U Zx U by1 (Xp _) ⟨U,U⟩
 refine Qc7 ?_
 obtain rfl:=h0 by17
 exact Zy (i:=0) U U U U Zx U by1 (Xp _) ⟨U,U⟩
theorem var_law (sc:List Cb) (s:ByteArray) (ts:List Ty) (hw:∀ b,findL s sc=some b→b.t.wd):IfT ((findL s sc).isSome=true∧((findL s sc).getD cb0).vs.length=ts.length) (((findL s sc).getD cb0).t.turn (putO ((findL s sc).getD cb0).vs ts)) (varC sc s ts)∧((findL s sc).isSome=true→((findL s sc).getD cb0).t.wd):=by
 unfold varC
 cases hf:findL s sc with
 | none=>exact ⟨⟨fun q=>absurd q.1 by18,fun _=>rfl⟩,fun q=>absurd q by18⟩
 | some b=>exact ⟨⟨fun q=>if_pos q.2,fun q=>if_neg (fun w=>q ⟨rfl,w⟩)⟩,fun _=>hw b hf⟩
def coFn (k:Int):FuncId:=if k=4 then 84 else if k=7 then 89 else if k=8 then 90 else if k=9 then 91 else 94
structure CoF (v:En) (pm:List Pm) (sc:List Cb) (vs:List ByteArray) (k m:Int) (s:ByteArray) (t:Ty) (ts:List Ty) (ks:List Co) (al:List Ca) (bs:List Cb) (r:Ty × Bool):Prop where
 h1:k=1→varC sc s ts=r∧∀ b,findL s sc=some b→b.t.wd
 h2:k=2→r=(tInt,true)
 h3:k=3→r=(tStr,true)
 hf:k=4∨k=7∨k=8∨k=9∨k=11→PCall Tryz.prog (coFn k) [.agg (ckC v (Pm.cellss pm) sc vs),.agg (Co.mk k s m t ts ks al bs).cells] (.tup [.agg r.1.cells,.val (.bool r.2)])
 h5b:k=5→¬ ks.length=2→r=(tyZ,false)
 h5:k=5→∀ f x,ks=[f,x]→∃ (F:Ty) (c:Bool) (l:List Ty) (A a b:Ty) (w:Bool),TypC v pm sc vs f (F,c)∧PCall Tryz.prog 85 [.agg F.cells] (.tup [.seq 4 (Ty.cellss l),.agg A.cells])∧(¬ l.length=0→l[0]?=some a∧F.kids=[a,b])∧BCall Tryz.prog 75 [.agg (ckC v (Pm.cellss pm) sc vs),.agg x.cells,.agg a.cells] (w=true)∧IfT (c=true∧¬ l.length=0∧w=true) b r
 h6b:k=6→¬ (ks.length=1∧rightC v vs t=true)→r=(tyZ,false)
 h6:k=6→∀ x,ks=[x]→rightC v vs t=true→∃ (N:Ty) (c:Bool),TypC v pm (sc++[.mk s [] t co0]) vs x (N,c)∧r=(.mk 3 arrow 0 [t,N],c)
 h10:k=10→∃ (l:List Ty) (c w:Bool),PCall Tryz.prog 92 [.agg v.cells,.val (.string s),.agg t.cells] (.tup [.seq 4 (Ty.cellss l),.val (.bool c)])∧BCall Tryz.prog 93 [.agg (ckC v (Pm.cellss pm) sc vs),.seq 11 (Co.cellss ks),.seq 4 (Ty.cellss l)] (w=true)∧r=(.mk 3 (kBr++s) 0 [t],c && (rightC v vs t && w))
 hz:k<1∨11<k→r=(tyZ,false)
theorem typ_one (v:En) (pm:List Pm) (sc:List Cb) (vs:List ByteArray) (k m:Int) (s:ByteArray) (t:Ty) (ts:List Ty) (ks:List Co) (al:List Ca) (bs:List Cb) (r:Ty × Bool) (hs:s.size≤1000000000000) (hsl:sc.length≤1000000000) (hts:∀ t∈ts,t.wd) (h0:ts.all (rightC v vs)=false→r=(tyZ,false)) (H:ts.all (rightC v vs)=true→CoF v pm sc vs k m s t ts ks al bs r):TypC v pm sc vs (.mk k s m t ts ks al bs) r:=by
 have HA:=all_Ty (rightC v vs) 80 [] [.cptr (ckC v (Pm.cellss pm) sc vs)] ts (fun x _=>typ1_c v (Pm.cellss pm) sc vs x)
 have HR:=coRight_c v vs t
 have hlt:=Ty.cellss_len ts
 have hlk:=Co.cellss_len ks
 have hk2:(⟨#[123]⟩:ByteArray).size=1:=rfl
 obtain ⟨tk,tn,tm,tl⟩:=t
 obtain ⟨da,cl,ins⟩:=v
 unfold TypC
 unfold ckC at HA ⊢
 simp only [En.cells,List.cons_append,List.nil_append] at HA HR ⊢
 generalize hA:ts.all (rightC ⟨da,cl,ins⟩ vs)=A at *
 refine Zc Tryz.func48 U (by kernel_rfl) U (Wc U) ?_
 refine Qc8 ?_;intro b4
 refine Qs ?_
 refine QeH ?_
 refine QE ?_;intro b6
 refine QO ?_
 refine Qa8 ?_
 refine Qd ?_
 refine Zb 20 U U U (op_makeFunc (fs:=[]) (cs:=[.tmp 2]) U U U (Zb 21 U U U (Zg (xs:=[.tmp 19,.tmp 20]) U U (HA) by2 ?_)));intro c21 h21
 refine Q5 ?_;intro c22 h22
 try replace h22:=Ym h22 h21
 refine Qa ?_
 obtain ⟨rfl,g22⟩|⟨rfl,g22⟩:=Za h22
 ·refine QbK ?_
  replace H:=H (by simpa using g22)
  clear h0 HA
  refine Qi ?_
  refine Qd ?_
  refine Qdl ?_
  refine Ql ?_
  refine Qz ?_;intro c27 h27
  refine Qj ?_
  obtain ⟨rfl,g27⟩|⟨rfl,g27⟩:=Za h27
  ·refine Qaj ?_;intro c56 h56
   refine Qj ?_
   obtain ⟨rfl,g56⟩|⟨rfl,g56⟩:=Za h56
   ·refine Qaj ?_;intro c59 h59
    refine Qj ?_
    obtain ⟨rfl,g59⟩|⟨rfl,g59⟩:=Za h59
    ·refine Qaj ?_;intro c62 h62
     refine Qj ?_
     obtain ⟨rfl,g62⟩|⟨rfl,g62⟩:=Za h62
     ·refine Qaj ?_;intro c69 h69
      refine Qj ?_
      obtain ⟨rfl,g69⟩|⟨rfl,g69⟩:=Za h69
      ·refine Qaj ?_;intro c114 h114
       refine Qj ?_
       obtain ⟨rfl,g114⟩|⟨rfl,g114⟩:=Za h114
       ·refine Qaj ?_;intro c153 h153
        refine Qj ?_
        obtain ⟨rfl,g153⟩|⟨rfl,g153⟩:=Za h153
        ·refine Qaj ?_;intro c160 h160
         refine Qj ?_
         obtain ⟨rfl,g160⟩|⟨rfl,g160⟩:=Za h160
         ·refine Qaj ?_;intro c167 h167
          refine Qj ?_
          obtain ⟨rfl,g167⟩|⟨rfl,g167⟩:=Za h167
          ·refine Qaj ?_;intro c174 h174
           refine Qj ?_
           obtain ⟨rfl,g174⟩|⟨rfl,g174⟩:=Za h174
           ·refine Qaj ?_;intro c211 h211
            refine Qj ?_
            obtain ⟨rfl,g211⟩|⟨rfl,g211⟩:=Za h211
            ·refine Qbr ?_
             refine Ql ?_
             refine Q9 ?_
             refine Qaa ?_
             obtain rfl:=H.hz by17
             exact Zy (i:=1) U U U U Zx U by1 (Xp _) ⟨U,U⟩
            refine QM ?_
            have HL:=H.hf (.inr (.inr (.inr (.inr g211))))
            clear H HR
            subst g211
            replace HL:PCall Tryz.prog 94 _ _:=HL
            unfold ckC at HL
            simp only [En.cells,List.cons_append,List.nil_append] at HL
            obtain ⟨⟨rk,rn,rm,rl⟩,c216⟩:=r
            refine Qi ?_
            refine Qb8 ?_
            refine QbU ?_
            refine Zb 214 U U U (Zd (xs:=[.tmp 212,.tmp 213]) U U (HL) by2 ?_)
            refine QbF ?_
            refine Qaa ?_
            exact Zy (i:=1) U U U U Zx U by1 (Xp _) ⟨U,U⟩
           refine QM ?_
           obtain ⟨l,c184,w,HP,HO,rfl⟩:=H.h10 g174
           clear H
           unfold ckC at HO
           simp only [En.cells,List.cons_append,List.nil_append] at HP HO
           have HN:=Con_c (kBr++s) [⟨tk,tn,tm,tl⟩] by18
           have h184:c184=true↔c184=true:=Iff.rfl
           generalize rightC ⟨da,cl,ins⟩ vs ⟨tk,tn,tm,tl⟩=R at *
           refine Qi ?_
           refine Qc9 ?_
           refine Qdb ?_
           refine Zb 182 U U U (Zd (xs:=[.tmp 177,.tmp 179,.tmp 181]) U U (HP) by2 ?_)
           refine Qa0 ?_
           refine Qs ?_
           refine Qd ?_
           refine QfP ?_
           refine Qdb ?_
           refine Zb 190 U U U (Zf (xs:=[.tmp 189]) Xj U U U U U U (Wc U) (Zb 191 U U U (Zd (xs:=[.tmp 187,.tmp 190]) U U (HN) by2 ?_)))
           refine Qb ?_
           have h192:(c184=true↔c184=true):=Iff.rfl
           refine Qb ?_
           obtain ⟨rfl,g192⟩|⟨rfl,g192⟩:=Za h192
           ·skip
            refine Qx ?_
            refine Qx ?_
            refine Qv ?_
            refine QaK ?_
            refine Qby ?_
            refine Qaa ?_
            exact Zy (i:=1) U U U U Zx U (Le.tup (Xw (Xu _) (Xw (Le.beq by15) (Xv _)))) (Xp _) ⟨U,U⟩
           skip
           refine QaI ?_
           refine Qdj ?_
           refine QaI ?_
           refine QA ?_
           refine Qci ?_
           refine Zo 201 U U U U U (Zg (xs:=[.tmp 195,.tmp 198,.tmp 200]) U U (HR) by2 ?_);intro c201 h201
           refine Qv ?_
           obtain ⟨rfl,g201⟩|⟨rfl,g201⟩:=Za h201
           ·skip
            refine QaK ?_
            refine Qby ?_
            refine Qaa ?_
            exact Zy (i:=1) U U U U Zx U (Le.tup (Xw (Xu _) (Xw (Le.beq by15) (Xv _)))) (Xp _) ⟨U,U⟩
           skip
           refine QfR ?_
           refine Qdu ?_
           refine Zo 208 U U U U U (Zg (xs:=[.tmp 204,.tmp 206,.tmp 207]) U U (HO) by2 ?_);intro c208 h208
           refine Qby ?_
           refine Qaa ?_
           exact Zy (i:=1) U U U U Zx U (Le.tup (Xw (Xu _) (Xw (Le.beq by15) (Xv _)))) (Xp _) ⟨U,U⟩
          refine QM ?_
          have HL:=H.hf (.inr (.inr (.inr (.inl g167))))
          clear H HR
          subst g167
          replace HL:PCall Tryz.prog 91 _ _:=HL
          unfold ckC at HL
          simp only [En.cells,List.cons_append,List.nil_append] at HL
          obtain ⟨⟨rk,rn,rm,rl⟩,c172⟩:=r
          refine Qi ?_
          refine Qb8 ?_
          refine QbU ?_
          refine Zb 170 U U U (Zd (xs:=[.tmp 168,.tmp 169]) U U (HL) by2 ?_)
          refine QbF ?_
          refine Qaa ?_
          exact Zy (i:=1) U U U U Zx U by1 (Xp _) ⟨U,U⟩
         refine QM ?_
         have HL:=H.hf (.inr (.inr (.inl g160)))
         clear H HR
         subst g160
         replace HL:PCall Tryz.prog 90 _ _:=HL
         unfold ckC at HL
         simp only [En.cells,List.cons_append,List.nil_append] at HL
         obtain ⟨⟨rk,rn,rm,rl⟩,c165⟩:=r
         refine Qi ?_
         refine Qb8 ?_
         refine QbU ?_
         refine Zb 163 U U U (Zd (xs:=[.tmp 161,.tmp 162]) U U (HL) by2 ?_)
         refine QbF ?_
         refine Qaa ?_
         exact Zy (i:=1) U U U U Zx U by1 (Xp _) ⟨U,U⟩
        refine QM ?_
        have HL:=H.hf (.inr (.inl g153))
        clear H HR
        subst g153
        replace HL:PCall Tryz.prog 89 _ _:=HL
        unfold ckC at HL
        simp only [En.cells,List.cons_append,List.nil_append] at HL
        obtain ⟨⟨rk,rn,rm,rl⟩,c158⟩:=r
        refine Qi ?_
        refine Qb8 ?_
        refine QbU ?_
        refine Zb 156 U U U (Zd (xs:=[.tmp 154,.tmp 155]) U U (HL) by2 ?_)
        refine QbF ?_
        refine Qaa ?_
        exact Zy (i:=1) U U U U Zx U by1 (Xp _) ⟨U,U⟩
       refine Q4 ?_
       refine QaJ ?_
       refine Zw 129 (¬ (ks.length=1∧rightC ⟨da,cl,ins⟩ vs ⟨tk,tn,tm,tl⟩=true)) ?_ _ _ U ?_
       ·skip
        refine Qd ?_
        refine Qb9 ?_;intro n117
        refine QP ?_;intro c118 h118
        refine Qb ?_
        obtain ⟨rfl,g118⟩|⟨rfl,g118⟩:=Za h118
        ·skip
         refine QaI ?_
         refine Qdj ?_
         refine QaI ?_
         refine QA ?_
         refine Qci ?_
         refine Zo 127 U U U U U (Zg (xs:=[.tmp 121,.tmp 124,.tmp 126]) U U (HR) by2 ?_);intro c127 h127
         refine Qal ?_;intro c128 h128
         try replace h128:=Ym h128 h127
         refine Qm ?_
         refine Wa U ?_ by6 by4
         clear H HR;first|(simp_all;done)|(simp_all;omega)|grind
        skip
        refine Qx ?_
        refine QaH ?_
        refine Wa U ?_ by6 by4
        clear H HR;first|(simp_all;done)|(simp_all;omega)|grind
       intro c129 h129
       refine Qc ?_
       obtain ⟨rfl,g129⟩|⟨rfl,g129⟩:=Za h129
       ·refine Qp ?_
        obtain ⟨q1,q2⟩:=Classical.not_not.1 g129
        obtain ⟨x,rfl⟩:=List.length_eq_one_iff.1 q1
        obtain ⟨N,c146,IH,rfl⟩:=H.h6 g114 x rfl q2
        clear H HR
        have HM:=coMono_c s ⟨tk,tn,tm,tl⟩
        have HW:=coWith_c ⟨da,cl,ins⟩ (Pm.cellss pm) sc [.mk s [] ⟨tk,tn,tm,tl⟩ co0] vs hsl by18
        have HU:=Fun_c ⟨tk,tn,tm,tl⟩ N
        unfold TypC at IH
        unfold ckC at IH HW
        simp only [En.cells,List.cons_append,List.nil_append] at IH HW
        have hcx:=Co.cellss_get (ts:=[x]) (i:=0) (t:=x) rfl
        obtain ⟨xk,xs,xn,⟨xtk,xts,xtn,xtl⟩,xus,xks,xal,xbs⟩:=x
        obtain ⟨rk,rn,rm,rl⟩:=N
        refine QgI ?_
        refine QeA ?_
        refine QaL ?_
        refine Qcm ?_
        refine QbT ?_
        refine Zi 137 (none) (i:=5) U U U U U (Zd (xs:=[.tmp 134,.tmp 136]) U U (HM) by2 ⟨U,U⟩) ?_
        refine Zi 138 (none) (i:=6) U U U U U (Zf (xs:=[.tmp 137]) el_27 U U U U U U (Wc U) ⟨U,U⟩) ?_
        refine Zi 139 (none) (i:=7) U U U U U (Zd (xs:=[.tmp 132,.tmp 138]) U U (HW) by2 ⟨U,U⟩) ?_
        refine Qda ?_
        refine Zi 144 (none) (i:=12) U U U U U (Zd (xs:=[.tmp 139,.tmp 143]) U U (IH) by2 ⟨U,U⟩) ?_
        refine Qb4 ?_
        refine Xa (i:=16) U U U (Yb (cs':=[_,_,_,_]) U tz_24 U U (fun b13=>⟨_,U,?_⟩))
        refine Qd3 ?_
        refine QZ ?_
        show AGo _ _ _ _ _ _ _
        refine Qdy ?_
        refine Qdb ?_
        refine Qcq ?_
        refine Zb 150 U U U (Zd (xs:=[.tmp 148,.tmp 149]) U U (HU) by2 ?_)
        refine Qb ?_
        refine Qaa ?_
        exact Zy (i:=1) U U U U Zx U by1 (Xp _) ⟨U,U⟩
       refine Qcj ?_
       obtain rfl:=H.h6b g114 g129
       exact Zy (i:=1) U U U U Zx U by1 (Xp _) ⟨U,U⟩
      refine QM ?_
      refine Ql ?_
      refine Qd ?_
      refine Qb9 ?_;intro n72
      refine QP ?_;intro c73 h73
      refine Qa ?_
      obtain ⟨rfl,g73⟩|⟨rfl,g73⟩:=Za h73
      ·refine Qp ?_
       obtain ⟨f,x,rfl⟩:∃ f x,ks=[f,x]:=len_two by17
       obtain ⟨⟨nk,ns,nn,nl⟩,c83,l,⟨Ak,As,An,Al⟩,a,b,w,Hf,HG,hl,HI,hr⟩:=H.h5 g69 f x rfl
       clear H HR
       unfold TypC at Hf
       unfold ckC at Hf HI
       simp only [En.cells,List.cons_append,List.nil_append] at Hf HI
       have hcf:=Co.cellss_get (ts:=[f,x]) (i:=0) (t:=f) rfl
       have hcx:=Co.cellss_get (ts:=[f,x]) (i:=1) (t:=x) rfl
       have hll:=Ty.cellss_len l
       obtain ⟨fk,fs,fn,⟨ftk,fts,ftn,ftl⟩,fus,fks,fal,fbs⟩:=f
       obtain ⟨xk,xs,xn,⟨xtk,xts,xtn,xtl⟩,xus,xks,xal,xbs⟩:=x
       replace hl:¬ l.length=0→l[0]?=some a∧nl=[a,b]:=hl
       have hc0:¬ l.length=0→(Ty.cellss l)[0]?=some a.cells:=fun q=>Ty.cellss_get (hl q).1
       have hc1:¬ l.length=0→(Ty.cellss nl)[1]?=some b.cells:=fun q=>by rw [(hl q).2];rfl
       clear hl
       obtain ⟨ak,as',an,akl⟩:=a
       obtain ⟨bk,bs',bn,bl⟩:=b
       refine QdS ?_
       refine QeA ?_
       refine QaL ?_
       refine QgJ ?_
       refine Qd8 ?_
       refine Zi 81 (none) (i:=5) U U U U U (Zd (xs:=[.tmp 76,.tmp 80]) U U (Hf) by2 ⟨U,U⟩) ?_
       refine Qb4 ?_
       refine Xa (i:=9) U U U (Yb (cs':=[_,_,_,_]) U tz_24 U U (fun b9=>⟨_,U,?_⟩))
       refine Qd3 ?_
       refine QZ ?_
       show AGo _ _ _ _ _ _ _
       refine Qdy ?_
       refine Qcq ?_
       refine Zb 86 U U U (Zd (xs:=[.tmp 85]) U U (HG) by2 ?_)
       refine QdA ?_;intro b12
       refine QJ ?_
       refine QO ?_
       refine Qdr ?_
       refine c_boold 107 (¬ (c83=true∧¬ l.length=0∧w=true)) Yx U ?_ _ _ U ?_
       ·skip
        refine QF ?_
        refine Yj 90 U U (fun _ q=>Yz U U q) ?_;intro c90 h90
        try replace h90:=Ym h90 h83
        refine QF ?_
        obtain ⟨rfl,g90⟩|⟨rfl,g90⟩:=Za h90
        ·skip
         refine QaT ?_
         refine Qex ?_
         refine Yk 94 U U U U (fun _ q=>op_eql U U U q) ?_;intro c94 h94
         refine Qa1 ?_
         obtain ⟨rfl,g94⟩|⟨rfl,g94⟩:=Za h94
         ·skip
          refine QfM ?_
          refine Qap ?_
          refine Ye 100 U U U U (Zh U te_25 U (.seq _ _) U U (by first|exact hcx|exact hc0 (by first|assumption|omega|grind)) ⟨U,U⟩) ?_
          refine QgK ?_
          refine QaT ?_
          refine Ye 103 U U U U (Zh U te_22 U (.seq _ _) U U (by first|exact hcx|exact hc0 (by first|assumption|omega|grind)) ⟨U,U⟩) ?_
          refine QeT ?_
          refine Yk 105 U U U U (fun _ q=>Zg (xs:=[.tmp 97,.tmp 101,.tmp 104]) U U (HI) by2 q) ?_;intro c105 h105
          refine Yk 106 U U U U (fun _ q=>Yz U U q) ?_;intro c106 h106
          try replace h106:=Ym h106 h105
          refine QH ?_
          show BoolQ _ _ _ _ _ _
          refine Wa U ?_ by6 by4
          clear HG HI Hf hc0 hc1 hr;first|(simp_all;done)|(simp_all;omega)|grind
         skip
         refine Qaf ?_
         refine Qca ?_
         refine QH ?_
         show BoolQ _ _ _ _ _ _
         refine Wa U ?_ by6 by4
         clear HG HI Hf hc0 hc1 hr;first|(simp_all;done)|(simp_all;omega)|grind
        skip
        refine Qb3 ?_
        refine Qa1 ?_
        refine Qaf ?_
        refine Qca ?_
        refine QH ?_
        show BoolQ _ _ _ _ _ _
        refine Wa U ?_ by6 by4
        clear HG HI Hf hc0 hc1 hr;first|(simp_all;done)|(simp_all;omega)|grind
       intro c107 h107
       refine Qc ?_
       obtain ⟨rfl,g107⟩|⟨rfl,g107⟩:=Za h107
       ·refine Qp ?_
        have q:=Classical.not_not.1 g107
        obtain rfl:=hr.1 q
        refine Qi ?_
        refine Qt ?_
        refine Qcu ?_
        refine Zb 111 U U U (Zh U te_22 U (.seq _ _) U U (hc1 q.2.1) ?_)
        refine Q7 ?_
        refine QcD ?_
        exact Zy (i:=2) U U U U Zx U by1 (Xp _) ⟨U,U⟩
       refine Qq ?_
       refine Qbp ?_
       refine QcD ?_
       obtain rfl:=hr.2 g107
       exact Zy (i:=2) U U U U Zx U by1 (Xp _) ⟨U,U⟩
      refine Qcj ?_
      obtain rfl:=H.h5b g69 by17
      exact Zy (i:=1) U U U U Zx U by1 (Xp _) ⟨U,U⟩
     refine QM ?_
     have HL:=H.hf (.inl g62)
     clear H HR
     subst g62
     replace HL:PCall Tryz.prog 84 _ _:=HL
     unfold ckC at HL
     simp only [En.cells,List.cons_append,List.nil_append] at HL
     obtain ⟨⟨rk,rn,rm,rl⟩,c67⟩:=r
     refine Qi ?_
     refine Qb8 ?_
     refine QbU ?_
     refine Zb 65 U U U (Zd (xs:=[.tmp 63,.tmp 64]) U U (HL) by2 ?_)
     refine QbF ?_
     refine Qaa ?_
     exact Zy (i:=1) U U U U Zx U by1 (Xp _) ⟨U,U⟩
    refine QM ?_
    obtain rfl:=H.h3 g59
    have HN:=Con_c kStrT [] by18
    refine Qi ?_
    refine Zb 60 U U U (Zd (xs:=[.const (.string ⟨#[83,116,114,105,110,103]⟩),.const (.slice none 0 0)]) U U (HN) by2 ?_)
    refine Qaa ?_
    exact Zy (i:=1) U U U U Zx U by1 (Xp _) ⟨U,U⟩
   refine QM ?_
   obtain rfl:=H.h2 g56
   have HN:=Con_c kIntT [] by18
   refine Qi ?_
   refine Zb 57 U U U (Zd (xs:=[.const (.string ⟨#[73,110,116]⟩),.const (.slice none 0 0)]) U U (HN) by2 ?_)
   refine Qaa ?_
   exact Zy (i:=1) U U U U Zx U by1 (Xp _) ⟨U,U⟩
  refine QM ?_
  obtain ⟨hr,hw⟩:=H.h1 g27
  clear H HR
  obtain ⟨hi,hw⟩:=var_law sc s ts hw
  rw [hr] at hi
  have HF:=coFind_c sc vs s
  generalize (findL s sc).isSome=c35 at *
  generalize (findL s sc).getD cb0=b at *
  obtain ⟨qb,qvs,⟨qwk,qws,qwn,qwl⟩,⟨qk,qs,qn,⟨qtk,qts,qtn,qtl⟩,qus,qks,qal,qbs⟩⟩:=b
  replace hi:IfT (c35=true∧qvs.length=ts.length) ((Ty.mk qwk qws qwn qwl).turn (putO qvs ts)) r:=hi
  have hlv:=Ya qvs
  refine Qi ?_
  refine QaR ?_
  refine Zb 30 U U U (Zt (cs':=[_,_]) U ta_89 U U U ?_)
  refine Qd ?_
  refine Zb 33 U U U (Zd (xs:=[.tmp 30,.tmp 32]) U U (HF) by2 ?_)
  refine Qb ?_
  refine QbF ?_
  refine QdN ?_;intro b7
  refine Qdk ?_
  refine Q1 ?_
  refine Zw 46 (¬ (c35=true∧qvs.length=ts.length)) ?_ _ _ U ?_
  ·skip
   refine Qbx ?_;intro c37 h37
   try replace h37:=Ym h37 h35
   refine Qb ?_
   obtain ⟨rfl,g37⟩|⟨rfl,g37⟩:=Za h37
   ·skip
    refine Qaq ?_
    refine Qfx ?_;intro n41
    refine QA ?_
    refine QbC ?_;intro n44
    refine Qax ?_;intro c45 h45
    refine Qm ?_
    refine Wa U ?_ by6 by4
    clear HF hi hw;first|(simp_all;done)|(simp_all;omega)|grind
   skip
   refine Qx ?_
   refine Qc5 ?_
   refine Wa U ?_ by6 by4
   clear HF hi hw;first|(simp_all;done)|(simp_all;omega)|grind
  intro c46 h46
  refine Qc ?_
  obtain ⟨rfl,g46⟩|⟨rfl,g46⟩:=Za h46
  ·refine Qp ?_
   have q:=Classical.not_not.1 g46
   have HP:=PutW_c qvs ts ⟨qwk,qws,qwn,qwl⟩ hts (hw q.1)
   obtain rfl:=hi.1 q
   clear hi hw
   generalize (Ty.mk qwk qws qwn qwl).turn (putO qvs ts)=y at *
   obtain ⟨yk,ys,yn,yl⟩:=y
   refine Qi ?_
   refine Qn ?_
   refine Qd ?_
   refine Qt ?_
   refine Q9 ?_
   refine Zb 54 U U U (Zd (xs:=[.tmp 49,.tmp 51,.tmp 53]) U U (HP) by2 ?_)
   refine QcD ?_
   exact Zy (i:=2) U U U U Zx U by1 (Xp _) ⟨U,U⟩
  refine Qq ?_
  refine Qbp ?_
  refine QcD ?_
  obtain rfl:=hi.2 g46
  exact Zy (i:=2) U U U U Zx U by1 (Xp _) ⟨U,U⟩
 refine Qcj ?_
 obtain rfl:=h0 (by simpa using g22)
 exact Zy (i:=1) U U U U Zx U by1 (Xp _) ⟨U,U⟩
theorem ex21_typ:TypC (.mk [] [] []) prims [] [] ex21 (.mk 3 arrow 0 [tInt,tInt],true):=by
 have h1:TypC (.mk [] [] []) prims ([]++[.mk kX [] tInt co0]) [] exV (tInt,true):=typ_one _ _ _ _ 1 _ _ _ _ _ _ _ _ by16 by18 by18 (fun h=>absurd h by16) (fun _=>⟨fun _=>⟨by kernel_rfl,fun b hb=>by
  have:b=.mk kX [] tInt co0:=by
   have:findL kX ([]++[.mk kX [] tInt co0])=some (.mk kX [] tInt co0):=by kernel_rfl
   rw [this] at hb
   exact (Option.some.inj hb).symm
  subst this
  simp [Cb.t,Ty.wd,Ty.wds]⟩,by simp,by simp,by simp,by simp,by simp,by simp,by simp,by simp,by simp⟩)
 exact typ_one _ _ _ _ 6 _ _ _ _ _ _ _ _ by16 by18 by18 (fun h=>absurd h by16) (fun _=>⟨by simp,by simp,by simp,by simp,by simp,by simp,fun _ q=>absurd ⟨U,by kernel_rfl⟩ q,fun _ x hx _=>by
  cases hx
  exact ⟨tInt,true,h1,U⟩,by simp,by simp⟩)
theorem tNames_c (q:Pa):q.size≤10000000000→OCall Tryz.prog 153 [.agg q.cells] 9 1 (strs q.names):=by
 obtain ⟨k,s,n,ks,p⟩:=q
 intro hs
 rw [Pa.size] at hs
 have IH:∀ x∈ks,OCall Tryz.prog 153 [.agg x.cells] 9 1 (strs x.names):=fun x hx=>tNames_c x (by have:=Pa.size_kid hx;omega)
 have hl:=Pa.cellss_len ks
 rw [Pa.names]
 obtain ⟨H,hH⟩:∃ H,H=(if k=2 then [s] else []):=⟨_,rfl⟩
 have hHl:H.length≤1:=by rw [hH];split <;> simp
 rw [← hH]
 refine Zc Tryz.func153 U (by kernel_rfl) U (Wc U) ?_
 refine QN ?_
 refine c_lena (t:=0) (j:=3) U U (.seq _ _) (fun hmax=>?_)
 refine Ql ?_
 refine QcN ?_
 refine Qs ?_
 refine Q1 ?_
 refine ACode.ownNil (t:=3) 9 1 U ?_
 refine Qi ?_
 refine QaE ?_;intro c8 h8
 refine Qa ?_
 obtain ⟨rfl,g8⟩|⟨rfl,g8⟩:=Za h8
 ·refine QaC ?_
  refine Qd ?_
  refine Qeg ?_;intro n16
  refine Qam ?_
  refine Xk (σ:=Nat × Value) (fun zz=>match zz with|(i,u)=>[(3,.own u 1 (strs (H++Pa.namess (ks.take i)))),(15,.seq 5 (Pa.cellss ks)),(16,.val (.int .i64 (Pa.cellss ks).length)),(17,.val (.int .i64 i))]) (fun zz=>match zz with|(i,u)=>[.own 9 1 u]) (fun zz=>match zz with|(i,u)=>i≤ks.length) (fun zz=>match zz with|(i,u)=>ks.length - i) ((0,.slice none 0 0)) ?_ ?_ ?_ ?_
  ·simp
  ·exact (by repeat' (first|exact Xz _|refine Xy U ?_ ?_|exact Xu _|exact Le.own _ _ _|exact Xx _|(refine Wb ?_;first|(rw [hH,if_pos g8];rfl)|(rw [hH,if_neg g8];rfl))|(refine Le.own_seq ?_;first|(rw [hH,if_pos g8];rfl)|(rw [hH,if_neg g8];rfl))|(refine Le.seq_eq ?_;first|(rw [hH,if_pos g8];rfl)|(rw [hH,if_neg g8];rfl))))
  ·exact by4
  rintro ⟨i,u⟩ hI
  try dsimp only [List.cons_append,List.nil_append] at hI ⊢
  refine Qan ?_;intro c18 h18
  refine Qy ?_
  obtain ⟨rfl,g18⟩|⟨rfl,g18⟩:=Za h18
  ·refine Qa4 ?_
   refine Ze U U (Wb ?_) by4 ⟨_,U,U⟩
   rw [List.take_of_length_le by17]
  refine Qk ?_
  obtain ⟨⟨yk,ys,yn,yks,yp⟩,hx⟩:=Zj (l:=ks) (i:=i) by17
  have hcx:=Pa.cellss_get hx
  have hle:=Pa.namess_len (ks.take i)
  have hle2:=Pa.names_len ⟨yk,ys,yn,yks,yp⟩
  have hle3:=Pa.sizes_take hx
  have e:strs (H++Pa.namess (ks.take i))++strs (Pa.names ⟨yk,ys,yn,yks,yp⟩)=strs (H++Pa.namess (ks.take (i+1))):=by rw [Pa.namess_take hx,← Xm,List.append_assoc]
  refine Qi ?_
  refine QeU ?_
  refine QdT ?_
  refine QbV ?_;intro b5
  refine QcO ?_
  refine QdB ?_
  refine QdU ?_
  refine Zb 23 U U U (op_callo (xs:=[.tmp 22]) U U (IH _ (Wg hx)) by2 ?_);intro u23
  refine QgL ?_
  intro u24
  refine Qcw ?_
  refine QcC ?_
  exact ⟨(i+1,u24),by simp;omega,by simp;omega,(by repeat' (first|exact Xz _|refine Xy U ?_ ?_|exact Xu _|exact Le.own _ _ _|exact Xx _|(refine Wb ?_;exact e)|(refine Le.own_seq ?_;exact e)|(refine Le.seq_eq ?_;exact e))),by4⟩
 refine Q4 ?_
 refine Qh ?_
 refine Qd ?_
 refine Zb 12 U U U (Zf (xs:=[.tmp 11]) Yy U U U U U U (Wc U) ?_)
 refine QdL ?_
 intro u13
 refine Qc6 ?_
 refine Qeg ?_;intro n16
 refine Qam ?_
 refine Xk (σ:=Nat × Value) (fun zz=>match zz with|(i,u)=>[(3,.own u 1 (strs (H++Pa.namess (ks.take i)))),(15,.seq 5 (Pa.cellss ks)),(16,.val (.int .i64 (Pa.cellss ks).length)),(17,.val (.int .i64 i))]) (fun zz=>match zz with|(i,u)=>[.own 9 1 u]) (fun zz=>match zz with|(i,u)=>i≤ks.length) (fun zz=>match zz with|(i,u)=>ks.length - i) ((0,u13)) ?_ ?_ ?_ ?_
 ·simp
 ·exact (by repeat' (first|exact Xz _|refine Xy U ?_ ?_|exact Xu _|exact Le.own _ _ _|exact Xx _|(refine Wb ?_;first|(rw [hH,if_pos g8];rfl)|(rw [hH,if_neg g8];rfl))|(refine Le.own_seq ?_;first|(rw [hH,if_pos g8];rfl)|(rw [hH,if_neg g8];rfl))|(refine Le.seq_eq ?_;first|(rw [hH,if_pos g8];rfl)|(rw [hH,if_neg g8];rfl))))
 ·exact by4
 rintro ⟨i,u⟩ hI
 try dsimp only [List.cons_append,List.nil_append] at hI ⊢
 refine Qan ?_;intro c18 h18
 refine Qy ?_
 obtain ⟨rfl,g18⟩|⟨rfl,g18⟩:=Za h18
 ·refine Qa4 ?_
  refine Ze U U (Wb ?_) by4 ⟨_,U,U⟩
  rw [List.take_of_length_le by17]
 refine Qk ?_
 obtain ⟨⟨yk,ys,yn,yks,yp⟩,hx⟩:=Zj (l:=ks) (i:=i) by17
 have hcx:=Pa.cellss_get hx
 have hle:=Pa.namess_len (ks.take i)
 have hle2:=Pa.names_len ⟨yk,ys,yn,yks,yp⟩
 have hle3:=Pa.sizes_take hx
 have e:strs (H++Pa.namess (ks.take i))++strs (Pa.names ⟨yk,ys,yn,yks,yp⟩)=strs (H++Pa.namess (ks.take (i+1))):=by rw [Pa.namess_take hx,← Xm,List.append_assoc]
 refine Qi ?_
 refine QeU ?_
 refine QdT ?_
 refine QbV ?_;intro b5
 refine QcO ?_
 refine QdB ?_
 refine QdU ?_
 refine Zb 23 U U U (op_callo (xs:=[.tmp 22]) U U (IH _ (Wg hx)) by2 ?_);intro u23
 refine QgL ?_
 intro u24
 refine Qcw ?_
 refine QcC ?_
 exact ⟨(i+1,u24),by simp;omega,by simp;omega,(by repeat' (first|exact Xz _|refine Xy U ?_ ?_|exact Xu _|exact Le.own _ _ _|exact Xx _|(refine Wb ?_;exact e)|(refine Le.own_seq ?_;exact e)|(refine Le.seq_eq ?_;exact e))),by4⟩
termination_by SizeOf.sizeOf q
decreasing_by exact Pa.lt_kid hx
theorem rNames_c (q:Pa):q.size≤10000000000→OCall Tryz.prog 177 [.agg q.cells] 9 1 (strs q.names):=by
 obtain ⟨k,s,n,ks,p⟩:=q
 intro hs
 rw [Pa.size] at hs
 have IH:∀ x∈ks,OCall Tryz.prog 177 [.agg x.cells] 9 1 (strs x.names):=fun x hx=>rNames_c x (by have:=Pa.size_kid hx;omega)
 have hl:=Pa.cellss_len ks
 rw [Pa.names]
 obtain ⟨H,hH⟩:∃ H,H=(if k=2 then [s] else []):=⟨_,rfl⟩
 have hHl:H.length≤1:=by rw [hH];split <;> simp
 rw [← hH]
 refine Zc Tryz.func177 U (by kernel_rfl) U (Wc U) ?_
 refine QN ?_
 refine c_lena (t:=0) (j:=3) U U (.seq _ _) (fun hmax=>?_)
 refine Ql ?_
 refine QcN ?_
 refine Qs ?_
 refine Q1 ?_
 refine ACode.ownNil (t:=3) 9 1 U ?_
 refine Qi ?_
 refine QaE ?_;intro c7 h7
 refine Qa ?_
 obtain ⟨rfl,g7⟩|⟨rfl,g7⟩:=Za h7
 ·refine QaC ?_
  refine Qab ?_
  refine Xk (σ:=Nat × Value) (fun zz=>match zz with|(i,u)=>[(1,.cptr (Pa.mk k s n ks p).cells),(3,.own u 1 (strs (H++Pa.namess (ks.take i)))),(4,.val (.int .i64 i))]) (fun zz=>match zz with|(i,u)=>[.own 9 1 u]) (fun zz=>match zz with|(i,u)=>i≤ks.length) (fun zz=>match zz with|(i,u)=>ks.length - i) ((0,.slice none 0 0)) ?_ ?_ ?_ ?_
  ·simp
  ·exact (by repeat' (first|exact Xz _|refine Xy U ?_ ?_|exact Xu _|exact Le.own _ _ _|exact Xx _|(refine Wb ?_;first|(rw [hH,if_pos g7];rfl)|(rw [hH,if_neg g7];rfl))|(refine Le.own_seq ?_;first|(rw [hH,if_pos g7];rfl)|(rw [hH,if_neg g7];rfl))|(refine Le.seq_eq ?_;first|(rw [hH,if_pos g7];rfl)|(rw [hH,if_neg g7];rfl))))
  ·exact by4
  rintro ⟨i,u⟩ hI
  try dsimp only [List.cons_append,List.nil_append] at hI ⊢
  refine Qav ?_
  refine Qeg ?_;intro n16
  refine Qg ?_;intro c17 h17
  refine Qa ?_
  obtain ⟨rfl,g17⟩|⟨rfl,g17⟩:=Za h17
  ·refine Qa4 ?_
   refine Ze U U (Wb ?_) by4 ⟨_,U,U⟩
   rw [List.take_of_length_le by17]
  refine QaV ?_
  obtain ⟨⟨yk,ys,yn,yks,yp⟩,hx⟩:=Zj (l:=ks) (i:=i) by17
  have hcx:=Pa.cellss_get hx
  have hle:=Pa.namess_len (ks.take i)
  have hle2:=Pa.names_len ⟨yk,ys,yn,yks,yp⟩
  have hle3:=Pa.sizes_take hx
  have e:strs (H++Pa.namess (ks.take i))++strs (Pa.names ⟨yk,ys,yn,yks,yp⟩)=strs (H++Pa.namess (ks.take (i+1))):=by rw [Pa.namess_take hx,← Xm,List.append_assoc]
  refine Qh ?_
  refine QT ?_
  refine QeU ?_
  refine QdT ?_
  refine Zb 26 U U U (op_callo (xs:=[.tmp 25]) U U (IH _ (Wg hx)) by2 ?_);intro u26
  refine QgM ?_
  intro u27
  refine QaD ?_
  exact ⟨(i+1,u27),by simp;omega,by simp;omega,(by repeat' (first|exact Xz _|refine Xy U ?_ ?_|exact Xu _|exact Le.own _ _ _|exact Xx _|(refine Wb ?_;exact e)|(refine Le.own_seq ?_;exact e)|(refine Le.seq_eq ?_;exact e))),by4⟩
 refine Q4 ?_
 refine Qh ?_
 refine Qd ?_
 refine Zb 11 U U U (Zf (xs:=[.tmp 10]) Yy U U U U U U (Wc U) ?_)
 refine QdL ?_
 intro u12
 refine Qae ?_
 refine Xk (σ:=Nat × Value) (fun zz=>match zz with|(i,u)=>[(1,.cptr (Pa.mk k s n ks p).cells),(3,.own u 1 (strs (H++Pa.namess (ks.take i)))),(4,.val (.int .i64 i))]) (fun zz=>match zz with|(i,u)=>[.own 9 1 u]) (fun zz=>match zz with|(i,u)=>i≤ks.length) (fun zz=>match zz with|(i,u)=>ks.length - i) ((0,u12)) ?_ ?_ ?_ ?_
 ·simp
 ·exact (by repeat' (first|exact Xz _|refine Xy U ?_ ?_|exact Xu _|exact Le.own _ _ _|exact Xx _|(refine Wb ?_;first|(rw [hH,if_pos g7];rfl)|(rw [hH,if_neg g7];rfl))|(refine Le.own_seq ?_;first|(rw [hH,if_pos g7];rfl)|(rw [hH,if_neg g7];rfl))|(refine Le.seq_eq ?_;first|(rw [hH,if_pos g7];rfl)|(rw [hH,if_neg g7];rfl))))
 ·exact by4
 rintro ⟨i,u⟩ hI
 try dsimp only [List.cons_append,List.nil_append] at hI ⊢
 refine Qav ?_
 refine Qeg ?_;intro n16
 refine Qg ?_;intro c17 h17
 refine Qa ?_
 obtain ⟨rfl,g17⟩|⟨rfl,g17⟩:=Za h17
 ·refine Qa4 ?_
  refine Ze U U (Wb ?_) by4 ⟨_,U,U⟩
  rw [List.take_of_length_le by17]
 refine QaV ?_
 obtain ⟨⟨yk,ys,yn,yks,yp⟩,hx⟩:=Zj (l:=ks) (i:=i) by17
 have hcx:=Pa.cellss_get hx
 have hle:=Pa.namess_len (ks.take i)
 have hle2:=Pa.names_len ⟨yk,ys,yn,yks,yp⟩
 have hle3:=Pa.sizes_take hx
 have e:strs (H++Pa.namess (ks.take i))++strs (Pa.names ⟨yk,ys,yn,yks,yp⟩)=strs (H++Pa.namess (ks.take (i+1))):=by rw [Pa.namess_take hx,← Xm,List.append_assoc]
 refine Qh ?_
 refine QT ?_
 refine QeU ?_
 refine QdT ?_
 refine Zb 26 U U U (op_callo (xs:=[.tmp 25]) U U (IH _ (Wg hx)) by2 ?_);intro u26
 refine QgM ?_
 intro u27
 refine QaD ?_
 exact ⟨(i+1,u27),by simp;omega,by simp;omega,(by repeat' (first|exact Xz _|refine Xy U ?_ ?_|exact Xu _|exact Le.own _ _ _|exact Xx _|(refine Wb ?_;exact e)|(refine Le.own_seq ?_;exact e)|(refine Le.seq_eq ?_;exact e))),by4⟩
termination_by SizeOf.sizeOf q
decreasing_by exact Pa.lt_kid hx
mutual
theorem patC_len (v:En):∀ (p:Pa) (t:Ty) (l:List Cb),patC v p t=some l→l.length≤p.size
 | .mk k s n ks pp,t,l,h=>by
  rw [patC] at h
  rw [Pa.size]
  split at h
  ·cases h;simp
  split at h
  ·cases h;simp
  split at h
  ·split at h
   ·cases h;simp
   simp at h
  split at h
  ·simp at h
  split at h
  ·simp at h
  have:=patCs_len v ks _ l h;omega
theorem patCs_len (v:En):∀ (ps:List Pa) (ts:List Ty) (l:List Cb),patCs v ps ts=some l→l.length≤Pa.sizes ps
 | [],ts,l,h=>by rw [patCs] at h;cases h;simp;simp
 | p::ps,[],l,h=>by rw [patCs] at h;cases h;simp;simp
 | p::ps,t::ts,l,h=>by
  rw [patCs] at h
  rw [Pa.sizes]
  cases h1:patC v p t with
  | none=>rw [h1] at h;simp at h
  | some a =>
   rw [h1] at h
   simp only [] at h
   cases h2:patCs v ps ts with
   | none=>rw [h2] at h;simp at h
   | some b =>
    rw [h2] at h
    cases h
    have:=patC_len v p t a h1
    have:=patCs_len v ps ts b h2
    rw [List.length_append];omega
end
def patT (o:Option (List Cb)):AV:=.tup [.seq 17 (Cb.cellss (o.getD [])),.val (.bool o.isSome)]
theorem coPat_c (v:En) (hv:EnT v) (pm:List (List AV)) (sc:List Cb) (vs:List ByteArray):∀ (d:Nat) (p:Pa) (t:Ty),p.size≤d→p.size≤90000000000→t.wd→PCall Tryz.prog 152 [.agg (ckC v pm sc vs),.agg p.cells,.agg t.cells] (patT (patC v p t))
 | 0,p,t,h,_,_=>by cases p;rw [Pa.size] at h;omega
 | d+1,.mk k s n ks pp,t,h,hz,ht=>by
  rw [Pa.size] at h hz
  have IH:=coPat_c v hv pm sc vs d
  obtain ⟨r,hr⟩:∃ r,patC v (.mk k s n ks pp) t=r:=⟨_,rfl⟩
  rw [hr]
  rw [patC] at hr
  have HM:=coMono_c s t
  have HI:=Con_c kIntT [] by18
  have HS:=tSameType_c t tInt
  have hti:t.eqC tInt=true↔t=tInt:=Ty.eqC_iff _ _
  generalize t.eqC tInt=ti at *
  have hlk:=Pa.cellss_len ks
  cases hc:conC s v.da with
  | none =>
   rw [hc] at hr
   replace hr:(if k=1 then some [] else if k=2 then some [Cb.mk s [] t co0] else if k=4 then (if ti=true then some [] else none) else none)=r:=hr
   have HC:=tCon_none v s hc
   clear IH hv hc
   generalize hq:(t=tInt)=q at *
   clear hq
   obtain ⟨tk,tn,tm,tl⟩:=t
   obtain ⟨da,cl,ins⟩:=v
   unfold ckC at *
   simp only [En.cells,List.cons_append,List.nil_append] at *
   refine QgN ?_
   refine Qbj ?_
   refine QcN ?_
   refine QcE ?_
   refine Qc6 ?_
   refine Qdl ?_
   refine Ql ?_
   refine Qz ?_;intro c20 h20
   refine Qj ?_
   obtain ⟨rfl,g20⟩|⟨rfl,g20⟩:=Za h20
   ·refine Qaj ?_;intro c22 h22
    refine Qj ?_
    obtain ⟨rfl,g22⟩|⟨rfl,g22⟩:=Za h22
    ·refine Qaj ?_;intro c29 h29
     refine Qj ?_
     obtain ⟨rfl,g29⟩|⟨rfl,g29⟩:=Za h29
     ·refine Qbr ?_
      refine Q2 ?_
      rw [if_neg g20,if_neg g22,if_neg g29] at hr
      refine Qi ?_
      refine Qc9 ?_
      refine Zb 38 U U U (Zd (xs:=[.tmp 35,.tmp 37]) U U (HC) by2 ?_)
      refine QcY ?_
      refine QcA ?_
      refine QcZ ?_;intro c43 h43
      try replace h43:=Ym h43 h41
      refine Qa ?_
      obtain ⟨rfl,g43⟩|⟨rfl,g43⟩:=Za h43
      ·refine Qp ?_
       exact absurd g43 by18
      refine QaZ ?_
      subst hr
      exact Yn U U U (Le.tup (Xw (Xx 17) (Xv _))) (Xp _) ⟨U,U⟩
     refine QM ?_
     refine Q6 ?_
     refine Qb5 ?_
     refine Zq 31 U U (Zd (xs:=[.const (.string ⟨#[73,110,116]⟩),.const (.slice none 0 0)]) U U (HI) by2 ⟨U,U⟩) ?_
     refine Yj 32 U U (fun _ q=>Zg (xs:=[.tmp 30,.tmp 31]) U U (HS) by2 q) ?_;intro c32 h32
     refine Qdz ?_
     show AGo _ _ _ _ _ _ _
     refine QI ?_
     rw [if_neg g20,if_neg g22,if_pos g29] at hr
     cases ti with
     | true =>
      subst hr
      exact Yn U U U (Le.tup (Xw (Xx 17) (Xw (Le.beq by15) (Xv _)))) (Xp _) ⟨U,U⟩
     | false =>
      subst hr
      exact Yn U U U (Le.tup (Xw (Xx 17) (Xw (Le.beq by15) (Xv _)))) (Xp _) ⟨U,U⟩
    refine Qq ?_
    refine Qd ?_
    refine Q7 ?_
    refine Zb 26 U U U (Zd (xs:=[.tmp 24,.tmp 25]) U U (HM) by2 ?_)
    refine QgO ?_
    refine Qac ?_
    rw [if_neg g20,if_pos g22] at hr
    subst hr
    exact Yn U U U (Xu _) (Xp _) ⟨U,U⟩
   refine QaZ ?_
   rw [if_pos g20] at hr
   subst hr
   exact Yn U U U (Le.tup (Xw (Xx 17) (Xv _))) (Xp _) ⟨U,U⟩
  | some dc =>
   obtain ⟨⟨ds,dps,dcs,ddv,dp⟩,⟨cs,cts,cp⟩⟩:=dc
   rw [hc] at hr
   replace hr:(if k=1 then some [] else if k=2 then some [Cb.mk s [] t co0] else if k=4 then (if ti=true then some [] else none) else if t.kind≠3∨t.name≠ds∨t.kids.length≠dps.length∨ks.length≠cts.length then none else patCs v ks (cts.map (Ty.turn (putO dps t.kids))))=r:=hr
   obtain ⟨i,j,HC,hi,hj⟩:=tCon_some v s _ _ hc
   have hj:dcs[j]?=some (.mk cs cts cp):=hj
   obtain ⟨hv1,hv2⟩:=hv.ct _ (Wg hi) _ (Wg hj)
   have hv1:cts.length≤1000000:=hv1
   have hv2:∀ u∈cts,u.wd:=fun u hu=>Ty.size_wd _ u (Nat.le_refl _) (by have:u.size≤9000:=hv2 u hu;omega)
   have hkw:∀ u∈t.kids,u.wd:=fun u hu=>by
    obtain ⟨tk,tn,tm,tl⟩:=t
    rw [Ty.wd] at ht
    exact (Ty.wds_iff _).1 ht.2 u hu
   have HP:=fun u (hu:u∈cts)=>PutW_c dps t.kids u hkw (hv2 u hu)
   have hTW:=fun u (hu:u∈cts)=>Ty.turn_wd (o:=putO dps t.kids) (putO_wd hkw) _ u (Nat.le_refl _) (hv2 u hu)
   have hci:=Da.cellss_get hi
   have hcj:=Cn.cellss_get hj
   have hlp:=Ya dps
   have hlc:=Ty.cellss_len cts
   clear hv hc
   generalize hq:(t=tInt)=q at *
   clear hq
   obtain ⟨tk,tn,tm,tl⟩:=t
   have hltl:=Ty.cellss_len tl
   simp only [Ty.kids] at HP hTW
   replace hr:(if k=1 then some [] else if k=2 then some [Cb.mk s [] ⟨tk,tn,tm,tl⟩ co0] else if k=4 then (if ti=true then some [] else none) else if tk≠3∨tn≠ds∨tl.length≠dps.length∨ks.length≠cts.length then none else patCs v ks (cts.map (Ty.turn (putO dps tl))))=r:=hr
   generalize hF:Ty.turn (putO dps tl)=F at *
   clear hkw ht
   obtain ⟨da,cl,ins⟩:=v
   unfold ckC at *
   simp only [En.cells,En.da,List.cons_append,List.nil_append] at *
   refine QgN ?_
   refine QN ?_
   refine c_lena (t:=1) (j:=3) U U (.seq _ _) (fun hmax=>?_)
   refine Ql ?_
   refine Qem ?_
   refine QcN ?_
   refine QcE ?_
   refine Qc6 ?_
   refine Qdl ?_
   refine Ql ?_
   refine Qz ?_;intro c20 h20
   refine Qj ?_
   obtain ⟨rfl,g20⟩|⟨rfl,g20⟩:=Za h20
   ·refine Qaj ?_;intro c22 h22
    refine Qj ?_
    obtain ⟨rfl,g22⟩|⟨rfl,g22⟩:=Za h22
    ·refine Qaj ?_;intro c29 h29
     refine Qj ?_
     obtain ⟨rfl,g29⟩|⟨rfl,g29⟩:=Za h29
     ·refine Qbr ?_
      refine Q2 ?_
      rw [if_neg g20,if_neg g22,if_neg g29] at hr
      refine Qi ?_
      refine Qc9 ?_
      refine Zb 38 U U U (Zd (xs:=[.tmp 35,.tmp 37]) U U (HC) by2 ?_)
      refine QcY ?_
      refine QcA ?_
      refine QcZ ?_;intro c43 h43
      try replace h43:=Ym h43 h41
      refine Qa ?_
      obtain ⟨rfl,g43⟩|⟨rfl,g43⟩:=Za h43
      ·refine QV ?_
       refine QaR ?_
       refine QT ?_
       refine QfK ?_
       refine Qed ?_
       refine Qd1 ?_;intro b11
       refine Qee ?_
       refine Qdr ?_
       refine c_boold 81 (tk≠3∨tn≠ds∨tl.length≠dps.length∨ks.length≠cts.length) Yx U ?_ _ _ U ?_
       ·skip
        refine Q3 ?_
        refine Yj 52 U U (fun _ q=>op_neq U U U q) ?_;intro c52 h52
        refine QF ?_
        obtain ⟨rfl,g52⟩|⟨rfl,g52⟩:=Za h52
        ·skip
         refine Qap ?_
         refine Qdx ?_
         refine Yk 58 U U U U (fun _ q=>op_sneq U U U q) ?_;intro c58 h58
         refine Qa1 ?_
         obtain ⟨rfl,g58⟩|⟨rfl,g58⟩:=Za h58
         ·skip
          refine Qap ?_
          refine Qex ?_
          refine Qdx ?_
          refine QgP ?_
          refine Yk 67 U U U U (fun _ q=>op_neq U U U q) ?_;intro c67 h67
          refine Qa1 ?_
          obtain ⟨rfl,g67⟩|⟨rfl,g67⟩:=Za h67
          ·skip
           refine Qap ?_
           refine Ye 72 U U U U (Yw U tu_65 U (.seq _ _) (fun _=>⟨U,U⟩)) ?_
           refine Qdx ?_
           refine QaT ?_
           refine QgD ?_
           refine Qap ?_
           refine Qex ?_
           refine Yk 80 U U U U (fun _ q=>op_neq U U U q) ?_;intro c80 h80
           refine QH ?_
           show BoolQ _ _ _ _ _ _
           refine Wa U ?_ by6 by4
           clear IH HM HI HS HP HC;first|(simp_all;done)|grind
          skip
          refine Qaf ?_
          refine Qb3 ?_
          refine QH ?_
          show BoolQ _ _ _ _ _ _
          refine Wa U ?_ by6 by4
          clear IH HM HI HS HP HC;first|(simp_all;done)|grind
         skip
         refine Qbh ?_
         refine Qb3 ?_
         refine Qa1 ?_
         refine Qaf ?_
         refine Qb3 ?_
         refine QH ?_
         show BoolQ _ _ _ _ _ _
         refine Wa U ?_ by6 by4
         clear IH HM HI HS HP HC;first|(simp_all;done)|grind
        skip
        refine Qbh ?_
        refine QcH ?_
        refine Qa1 ?_
        refine Qbh ?_
        refine Qb3 ?_
        refine Qa1 ?_
        refine Qaf ?_
        refine Qb3 ?_
        refine QH ?_
        show BoolQ _ _ _ _ _ _
        refine Wa U ?_ by6 by4
        clear IH HM HI HS HP HC;first|(simp_all;done)|grind
       intro c81 h81
       refine Qc ?_
       obtain ⟨rfl,g81⟩|⟨rfl,g81⟩:=Za h81
       ·refine Qp ?_
        rw [if_neg g81] at hr
        have hlen:ks.length=cts.length:=by
         clear IH HM HI HS HP HC
         exact Classical.not_not.1 fun q=>g81 (.inr (.inr (.inr q)))
        refine Qi ?_
        refine Qc6 ?_
        refine Qeg ?_;intro n84
        refine Qam ?_
        refine Yp 46 17 ?_
        apply Yl (rg [(0,3),(4,1),(6,3),(10,1),(12,71),(85,31)]) (σ:=Nat × List Cb × Value) (fun zz=>match zz with|(i2,out,u)=>[(12,.own u 17 (Cb.cellss out)),(85,.val (.int .i64 i2))]) (fun zz=>match zz with|(i2,out,u)=>[.loc b11 [.val (.string ds),.seq 1 (strs dps),.seq 3 (Cn.cellss dcs),.seq 1 (strs ddv),.val (.int .i64 dp)],.own 46 17 u]) (fun zz=>match zz with|(i2,out,u)=>i2≤ks.length∧out.length+Pa.sizes (ks.drop i2)≤Pa.sizes ks∧(patCs (.mk da cl ins) (ks.drop i2) ((cts.map F).drop i2)).map (out++·)=r) (fun zz=>match zz with|(i2,out,u)=>ks.length - i2) ((0,[],.slice none 0 0))
        ·repeat' (first|exact Wf|apply Wd rfl|apply We rfl)
        ·exact ⟨Nat.zero_le _,by simp,by rw [List.drop_zero,List.drop_zero,hr];cases r <;> simp⟩
        ·exact Xy U (Le.nilOwn 17) (Xy U (Xu _) by5)
        ·exact by4
        rintro ⟨i2,out,u⟩ hI
        try dsimp only [List.cons_append,List.nil_append] at hI ⊢
        obtain ⟨hi2,hsz2,hD⟩:=hI
        have hol:=Cb.cellss_len out
        refine Qan ?_;intro c86 h86
        refine Qy ?_
        obtain ⟨rfl,g86⟩|⟨rfl,g86⟩:=Za h86
        ·refine QcP ?_
         refine Q0 ?_
         refine Qac ?_
         rw [Wh by17,patCs] at hD
         ·have hr2:r=some out:=by rw [← hD];simp
          clear hD hr
          subst hr2
          exact Yn U U U (Le.tup (Xw (Le.own _ _ _) (Xv _))) (Xp _) ⟨U,U⟩
         simp
        refine Qk ?_
        obtain ⟨⟨qk,qs,qn,ql,qp⟩,hxq⟩:=Zj (l:=ks) (i:=i2) by8
        have hcq:=Pa.cellss_get hxq
        have hmq:=Wg hxq
        obtain ⟨⟨uk,us,un,ul⟩,hu⟩:=Zj (l:=cts) (i:=i2) by17
        have hcu:=Ty.cellss_get hu
        have hmu:=Wg hu
        have hAu:(cts.map F)[i2]?=some (F ⟨uk,us,un,ul⟩):=by rw [List.getElem?_map,hu];rfl
        have HPu:=HP _ hmu
        have hTu:=hTW _ hmu
        have hqs:=Pa.size_kid hmq
        rw [Zz hxq,Zz hAu,patCs] at hD
        rw [Zz hxq,Pa.sizes] at hsz2
        obtain ⟨⟨fk,fs,fn,fl⟩,hfu⟩:∃ y,F ⟨uk,us,un,ul⟩=y:=⟨_,rfl⟩
        rw [hfu] at HPu hTu hD
        have HQ:=IH ⟨qk,qs,qn,ql,qp⟩ ⟨fk,fs,fn,fl⟩ by17 by17 hTu
        have hql:=patC_len (.mk da cl ins) ⟨qk,qs,qn,ql,qp⟩ ⟨fk,fs,fn,fl⟩
        obtain ⟨o,ho⟩:∃ o,patC (.mk da cl ins) ⟨qk,qs,qn,ql,qp⟩ ⟨fk,fs,fn,fl⟩=o:=⟨_,rfl⟩
        rw [ho] at HQ hD hql
        unfold patT at HQ
        obtain ⟨c109,hc109⟩:∃ c,o.isSome=c:=⟨_,rfl⟩
        rw [hc109] at HQ
        have hgl:=Cb.cellss_len (o.getD [])
        clear hfu ho
        refine Qh ?_
        refine Zb 88 U U U (Zh U te_65 U (.seq _ _) U U (hcq) ?_)
        refine QdT ?_
        refine QbV ?_;intro b14
        refine QJ ?_
        refine QcO ?_
        refine Qy ?_
        refine Q6 ?_
        refine QgF ?_
        refine Zq 92 U U (Zs (cs':=[_,_,_,_,_]) (i:=0) U ta_67 U U U U ⟨U,U⟩) ?_
        refine QbR ?_
        refine QdM ?_
        refine Q3 ?_
        refine QbR ?_
        refine QdM ?_
        refine QF ?_
        refine Zq 100 U U (Zh U te_112 U (.seq _ _) U U (by first|exact hcj|exact hcu) ⟨U,U⟩) ?_
        refine QaF ?_
        refine Zq 104 U U (Zh U te_22 U (.seq _ _) U U (by first|exact hcj|exact hcu) ⟨U,U⟩) ?_
        refine Qb5 ?_
        refine Zq 106 U U (Zd (xs:=[.tmp 94,.tmp 96,.tmp 105]) U U (HPu) by2 ⟨U,U⟩) ?_
        refine Zq 107 U U (Zd (xs:=[.tmp 91,.tmp 92,.tmp 106]) U U (HQ) by2 ⟨U,U⟩) ?_
        refine QF ?_
        refine Qb7 ?_
        refine Qb7 ?_
        refine Qdz ?_
        show AGo _ _ _ _ _ _ _
        refine Qc ?_
        refine QS ?_
        refine Q5 ?_;intro c111 h111
        try replace h111:=Ym h111 h109
        refine Qa ?_
        obtain ⟨rfl,g111⟩|⟨rfl,g111⟩:=Za h111
        ·refine QbW ?_
         obtain ⟨a,rfl⟩:∃ a,o=some a:=by
          cases o with
          | none=>simp at hc109;subst hc109;exact absurd (by simp:(false:Bool)=true↔False) (fun _=>g111 by18)
          | some a=>exact ⟨a,rfl⟩
         have hla:a.length≤_:=hql a rfl
         simp only [Option.getD_some] at hgl ⊢
         have hD:(match patCs (.mk da cl ins) (ks.drop (i2+1)) ((cts.map F).drop (i2+1)) with
          | none=>none
          | some m=>some (a++m)).map (out++·)=r:=hD
         refine Q8 ?_
         refine Zb 114 U U U (Zv (i:=2) el_27 U U U U (.seq _ _) by7 ?_)
         intro u114
         refine Qcw ?_
         refine QcC ?_
         refine ⟨(i2+1,out++a,u114),⟨by show i2+1≤ks.length;omega,by show (out++a).length+Pa.sizes (ks.drop (i2+1))≤Pa.sizes ks;rw [List.length_append];omega,?_⟩,by show ks.length - (i2+1)<ks.length - i2;omega,Xy U (Wb (Cb.cellss_app _ _).symm) by5,by4⟩
         rw [← hD]
         cases patCs (.mk da cl ins) (ks.drop (i2+1)) ((cts.map F).drop (i2+1)) with
         | none=>rfl
         | some m=>simp
        refine QaZ ?_
        have ho:o=none:=by
         cases o with
         | none=>rfl
         | some a=>simp at hc109;subst hc109;exact absurd g111 by18
        subst ho
        have hr2:r=none:=by rw [← hD];rfl
        clear hD hr
        subst hr2
        exact Yn U U U (Le.tup (Xw (Xx 17) (Xv _))) (Xp _) ⟨U,U⟩
       refine QaZ ?_
       rw [if_pos g81] at hr
       subst hr
       exact Yn U U U (Le.tup (Xw (Xx 17) (Xv _))) (Xp _) ⟨U,U⟩
      refine QM ?_
      exact absurd g43 by18
     refine QM ?_
     refine Q6 ?_
     refine Qb5 ?_
     refine Zq 31 U U (Zd (xs:=[.const (.string ⟨#[73,110,116]⟩),.const (.slice none 0 0)]) U U (HI) by2 ⟨U,U⟩) ?_
     refine Yj 32 U U (fun _ q=>Zg (xs:=[.tmp 30,.tmp 31]) U U (HS) by2 q) ?_;intro c32 h32
     refine Qdz ?_
     show AGo _ _ _ _ _ _ _
     refine QI ?_
     rw [if_neg g20,if_neg g22,if_pos g29] at hr
     cases ti with
     | true =>
      subst hr
      exact Yn U U U (Le.tup (Xw (Xx 17) (Xw (Le.beq by15) (Xv _)))) (Xp _) ⟨U,U⟩
     | false =>
      subst hr
      exact Yn U U U (Le.tup (Xw (Xx 17) (Xw (Le.beq by15) (Xv _)))) (Xp _) ⟨U,U⟩
    refine Qq ?_
    refine Qd ?_
    refine Q7 ?_
    refine Zb 26 U U U (Zd (xs:=[.tmp 24,.tmp 25]) U U (HM) by2 ?_)
    refine QgO ?_
    refine Qac ?_
    rw [if_neg g20,if_pos g22] at hr
    subst hr
    exact Yn U U U (Xu _) (Xp _) ⟨U,U⟩
   refine QaZ ?_
   rw [if_pos g20] at hr
   subst hr
   exact Yn U U U (Le.tup (Xw (Xx 17) (Xv _))) (Xp _) ⟨U,U⟩
theorem ACode.freezep {ro:Option Nat} {n':Nat} {Q:Exit→Sl→Mem→Prop} {c:Code} {al al':Sl} {M:Mem} {P:Program} {b i:Nat} {cs:List AV} (hm:M[i]?=some (.loc b cs))
    (hs:∀ t v',al'.lookup t=some v'→∃ v,al.lookup t=some v∧(Le v v'∨v=.ptr b 0∧v'=.cptr cs))
    (h:ACode ro P n' c Q al' (M.eraseIdx i)):ACode ro P n' c Q al M:=by
 intro B F Mf a w hi hsl
 have hi2:=hi.perm ((perm_at hm).append_right Mf)
 rw [List.cons_append] at hi2
 obtain ⟨hB,hF,vs,T,hb,hr,h1⟩:=hi2.ok _ (List.mem_cons_self)
 have hfar:=hi2.far
 rw [List.pairwise_cons] at hfar
 have hbl:b<w.heap.size:=(hi2.ok _ (List.mem_cons_self)).lt (r:=.loc b cs) rfl
 have hext:Ext F (F.new b vs):=by
  intro b' j x hx
  unfold EH.new
  split
  ·rename_i e;subst e;rw [hF j] at hx;simp at hx
  exact hx
 have hinv:Inv B (F.new b vs) (M.eraseIdx i++Mf) w:=by
  refine ⟨hi.base,fun b' j x hx=>?_,fun r hr'=>?_,hfar.2⟩
  ·unfold EH.new at hx
   split at hx
   ·rename_i e;subst e
    rw [cell_block hb];exact hx
   exact hi.fix b' j x hx
  refine (hi2.ok r (List.mem_cons_of_mem _ hr')).stay hext (fun b' hb'=>⟨U,fun j=>?_⟩)
  unfold EH.new
  rw [if_neg]
  intro e
  subst e
  rcases hfar.1 r hr' with k|k
  ·simp [Res.blk] at k
  exact k hb'.symm
 have:=h B (F.new b vs) Mf a w hinv ⟨hsl.1,fun t v' e=>?_⟩
 ·exact Code.wpIn_mono (fun e a w hp=>PostD.next (Ds:=[]) hext (Below.refl _ _) hp) this
 obtain ⟨v,h2,h3⟩:=hs t v' e
 obtain ⟨h4,h5⟩:=hsl.2 t v h2
 refine ⟨h4,?_⟩
 rcases h3 with h3|⟨rfl,rfl⟩
 ·exact h3 _ _ (h5.mono hext)
 generalize a.tmps.getD t undef=y at h5
 cases h5
 exact .cptr b 0 (EH.new_lies _ _ _) (hr.mono hext) h1
theorem c_frzp {ro:Option Nat} {P:Program} {n:Nat} {ks:List Kont} {Q:Exit→Sl→Mem→Prop} {c:Code} {al:Sl} {M:Mem} {b i:Nat} {cs:List AV} (t:Nat) (hm:M[i]?=some (.loc b cs)) (ht:al.lookup t=some (.ptr b 0)) (h:ACode ro P n c (after ro P n ks Q) ((t,.cptr cs)::al) (M.eraseIdx i)):ACode ro P n c (after ro P n ks Q) al M :=
 ACode.freezep hm (fun t' v' e=>by
  by_cases q:t'=t
  ·subst q
   simp only [List.lookup_cons,beq_self_eq_true,Option.some.injEq] at e
   exact ⟨_,ht,.inr ⟨U,e.symm⟩⟩
  rw [List.lookup_cons,show (t' == t)=false by simpa using q] at e
  exact ⟨_,e,.inl (Xu _)⟩) h
theorem coBind1_c (v:En) (pm:List (List AV)) (sc:List Cb) (vs:List ByteArray) (s:ByteArray):BCall Tryz.prog 71 [.val (.string s),.cptr (ckC v pm sc vs)] ((!hasB vs s)=true):=by
 have H:=ContainsS_c vs s
 rw [show ((!hasB vs s)=true)=¬ (s∈vs) by rw [← hasB_iff];simp]
 unfold ckC
 obtain ⟨da,cl,ins⟩:=v
 simp only [En.cells,List.cons_append,List.nil_append] at *
 refine Zc Tryz.func71 U (by kernel_rfl) U (Wc U) ?_
 refine Qe ?_
 refine Qs ?_
 refine QaR ?_
 refine QT ?_
 refine Zb 8 U U U (Zg (xs:=[.tmp 6,.tmp 7]) U U (H) by2 ?_);intro c8 h8
 refine Q5 ?_;intro c9 h9
 try replace h9:=Ym h9 h8
 refine Qo ?_
 exact Ze U U (Xu _) (Xp _) ⟨⟨_,h9,U⟩,U⟩
theorem coBind_c (v:En) (pm:List Pm) (sc:List Cb) (vs:List ByteArray) (f:List Cb→List ByteArray→Co→Ty × Bool) (b:Cb) (h1:vs.length≤1000000000) (h2:b.vs.length≤1000000000) (H:TypC v pm sc (vs++b.vs) b.e (f sc (vs++b.vs) b.e)):BCall Tryz.prog 43 [.agg (ckC v (Pm.cellss pm) sc vs),.agg b.cells] (bindC f v sc vs b=true):=by
 have HU:=unlike_c b.vs
 have HA:=all_S (fun s => !hasB vs s) 71 [] [.cptr (ckC v (Pm.cellss pm) sc vs)] b.vs (fun x _=>coBind1_c v (Pm.cellss pm) sc vs x)
 have HW:=coAllow_c v (Pm.cellss pm) sc vs b.vs h1 h2
 have HR:=coRight_c v (vs++b.vs) b.t
 have HI:=coIs_c v pm sc (vs++b.vs) b.e (f sc (vs++b.vs) b.e) b.t H
 rw [show (bindC f v sc vs b=true)=((unlB b.vs=true∧(b.vs.all fun s => !hasB vs s)=true)∧(rightC v (vs++b.vs) b.t=true∧((f sc (vs++b.vs) b.e).2 && (f sc (vs++b.vs) b.e).1.eqC b.t)=true)) by unfold bindC;simp only [Bool.and_eq_true]]
 generalize (unlB b.vs=true)=q1 at *
 generalize ((b.vs.all fun s => !hasB vs s)=true)=q2 at *
 generalize (rightC v (vs++b.vs) b.t=true)=q3 at *
 generalize (((f sc (vs++b.vs) b.e).2 && (f sc (vs++b.vs) b.e).1.eqC b.t)=true)=q4 at *
 clear H h1 h2
 obtain ⟨qb,qvs,⟨qwk,qws,qwn,qwl⟩,⟨qk,qs,qn,⟨qtk,qts,qtn,qtl⟩,qus,qks,qal,qbs⟩⟩:=b
 simp only [Cb.vs,Cb.t,Cb.e] at *
 obtain ⟨da,cl,ins⟩:=v
 unfold ckC at *
 simp only [En.cells,List.cons_append,List.nil_append] at *
 refine Zc Tryz.func43 U (by kernel_rfl) U (Wc U) ?_
 refine Qbj ?_
 refine Qea ?_
 refine Q1 ?_
 refine Zw 16 (¬ (q1∧q2)) ?_ _ _ U ?_
 ·skip
  refine Qd ?_
  refine Zb 8 U U U (Zg (xs:=[.tmp 7]) U U (HU) by2 ?_);intro c8 h8
  refine Q5 ?_;intro c9 h9
  try replace h9:=Ym h9 h8
  refine Qb ?_
  obtain ⟨rfl,g9⟩|⟨rfl,g9⟩:=Za h9
  ·skip
   refine QA ?_
   refine Zo 13 U U U U U (op_makeFunc (fs:=[]) (cs:=[.tmp 2]) U U U (Zo 14 U U U U U (Zg (xs:=[.tmp 12,.tmp 13]) U U (HA) by2 ?_)));intro c14 h14
   refine Qal ?_;intro c15 h15
   try replace h15:=Ym h15 h14
   refine Qm ?_
   refine Wa U ?_ by6 by4
   clear HU HA HW HR HI;first|(simp_all;done)|grind
  skip
  refine QaH ?_
  refine Wa U ?_ by6 by4
  clear HU HA HW HR HI;first|(simp_all;done)|grind
 intro c16 h16
 refine Qc ?_
 obtain ⟨rfl,g16⟩|⟨rfl,g16⟩:=Za h16
 ·refine QV ?_
  refine Qb8 ?_
  refine Qd ?_
  refine Zb 20 U U U (Zd (xs:=[.tmp 17,.tmp 19]) U U (HW) by2 ?_)
  refine Qd2 ?_;intro b5
  refine QeB ?_
  refine Qy ?_
  refine Zw 4 (q3∧q4) ?_ _ _ U ?_
  ·skip
   refine Qt ?_
   refine QfF ?_
   refine Qt ?_
   refine Qn ?_
   refine Qdb ?_
   refine Zb 28 U U U (Zg (xs:=[.tmp 22,.tmp 25,.tmp 27]) U U (HR) by2 ?_);intro c28 h28
   refine Qb ?_
   obtain ⟨rfl,g28⟩|⟨rfl,g28⟩:=Za h28
   ·skip
    refine Qx ?_
    refine QbI ?_
    refine Wa U ?_ by6 by4
    clear HU HA HW HR HI;first|(simp_all;done)|grind
   skip
   refine QgR ?_
   refine QaI ?_
   refine QgS ?_
   refine Qci ?_
   refine Zo 35 U U U U U (Zg (xs:=[.tmp 30,.tmp 32,.tmp 34]) U U (HI) by2 ?_);intro c35 h35
   refine QC ?_
   refine Wa U ?_ by6 by4
   clear HU HA HW HR HI;first|(simp_all;done)|grind
  intro c4 h4
  refine QI ?_
  exact Ze U U (Xu _) (Xp _) ⟨⟨_,h4.trans ⟨fun q=>⟨Classical.not_not.1 g16,q⟩,fun q=>q.2⟩,U⟩,U⟩
 refine QD ?_
 exact Ze U U (Xu _) (Xp _) ⟨⟨_,iff_f (fun q=>g16 q.1),U⟩,U⟩
theorem coLet1_c (v:En) (pm:List (List AV)) (sc2:List Cb) (vs:List ByteArray) (e:Co) (b:Cb) (q:Bool) (HB:BCall Tryz.prog 43 [.agg (ckC v pm sc2 vs),.agg b.cells] (q=true)):BCall Tryz.prog 148 [.agg b.cells,.cptr e.cells,.cptr (ckC v pm sc2 vs)] (((decide (e.n≠1) || decide (b.e.k=6)) && q)=true):=by
 rw [show ((((decide (e.n≠1) || decide (b.e.k=6)) && q)=true))=((e.n≠1∨b.e.k=6)∧q=true) by simp]
 generalize (q=true)=Q at *
 obtain ⟨qb,qvs,⟨qwk,qws,qwn,qwl⟩,⟨qk,qs,qn,⟨qtk,qts,qtn,qtl⟩,qus,qks,qal,qbs⟩⟩:=b
 obtain ⟨k,s,n,⟨tk,ts,tn,tl⟩,us,ks,al,bs⟩:=e
 simp only [Co.n,Cb.e,Co.k]
 obtain ⟨da,cl,ins⟩:=v
 unfold ckC at *
 simp only [En.cells,List.cons_append,List.nil_append] at *
 refine Zc Tryz.func148 U (by kernel_rfl) U (Wc U) ?_
 refine Qe ?_
 refine Qea ?_
 refine QG ?_
 refine Zw 4 ((n≠1∨qk=6)∧Q) ?_ _ _ U ?_
 ·skip
  refine Qd ?_
  refine QP ?_;intro c7 h7
  refine Qb ?_
  obtain ⟨rfl,g7⟩|⟨rfl,g7⟩:=Za h7
  ·skip
   refine QaI ?_
   refine QA ?_
   refine Qak ?_;intro c12 h12
   refine Qv ?_
   obtain ⟨rfl,g12⟩|⟨rfl,g12⟩:=Za h12
   ·skip
    refine Qah ?_
    refine QC ?_
    refine Wa U ?_ by6 by4
    clear HB;first|(simp_all;done)|grind
   skip
   refine QfR ?_
   refine QfS ?_
   refine Zo 17 U U U U U (Zg (xs:=[.tmp 15,.tmp 16]) U U (HB) by2 ?_);intro c17 h17
   refine QC ?_
   refine Wa U ?_ by6 by4
   clear HB;first|(simp_all;done)|grind
  skip
  refine Qx ?_
  refine Qv ?_
  refine QfR ?_
  refine QfS ?_
  refine Zo 17 U U U U U (Zg (xs:=[.tmp 15,.tmp 16]) U U (HB) by2 ?_);intro c17 h17
  refine QC ?_
  refine Wa U ?_ by6 by4
  clear HB;first|(simp_all;done)|grind
 intro c4 h4
 refine QI ?_
 exact Ze U U (Xu _) (Xp _) ⟨⟨_,h4,U⟩,U⟩
abbrev LetC (v:En) (pm:List Pm) (sc:List Cb) (vs:List ByteArray) (e:Co) (r:Ty × Bool):Prop:=PCall Tryz.prog 89 [.agg (ckC v (Pm.cellss pm) sc vs),.agg e.cells] (.tup [.agg r.1.cells,.val (.bool r.2)])
theorem coLet_c (v:En) (pm:List Pm) (sc:List Cb) (vs:List ByteArray) (k m:Int) (s:ByteArray) (t:Ty) (ts:List Ty) (ks:List Co) (al:List Ca) (bs:List Cb) (q:Cb→Bool) (r:Ty × Bool) (h1:sc.length≤1000000000) (h2:bs.length≤1000000000)
    (HB:∀ b∈bs,BCall Tryz.prog 43 [.agg (ckC v (Pm.cellss pm) (if m=1 then sc++bs else sc) vs),.agg b.cells] (q b=true))
    (HX:∀ x,ks=[x]→TypC v pm (sc++bs) vs x r) :
    LetC v pm sc vs (.mk k s m t ts ks al bs) (if ks.length=1∧unlB (bs.map Cb.s)=true∧(bs.all fun b=>(decide (m≠1) || decide (b.e.k=6)) && q b)=true then r else (tyZ,false)):=by
 obtain ⟨S2,hS2⟩:∃ S,(if m=1 then sc++bs else sc)=S:=⟨_,rfl⟩
 rw [hS2] at HB
 have HW:=coWith_c v (Pm.cellss pm) sc bs vs h1 h2
 have HU:=unlike_c (bs.map Cb.s)
 have HA:=all_Cb (fun b=>(decide (m≠1) || decide (b.e.k=6)) && q b) 148 [] [.cptr (Co.mk k s m t ts ks al bs).cells,.cptr (ckC v (Pm.cellss pm) S2 vs)] bs (fun b hb=>coLet1_c v (Pm.cellss pm) _ vs (.mk k s m t ts ks al bs) b (q b) (HB b hb))
 clear HB
 generalize (bs.all fun b=>(decide (m≠1) || decide (b.e.k=6)) && q b)=q2 at *
 generalize hnb:bs.map Cb.s=nb at *
 generalize unlB nb=q1 at *
 have hlk:=Co.cellss_len ks
 have hlb:=Cb.cellss_len bs
 obtain ⟨tk,tn,tm,tl⟩:=t
 obtain ⟨R,hR⟩:∃ R,(if ks.length=1∧q1=true∧q2=true then r else (tyZ,false))=R:=⟨_,rfl⟩
 rw [hR]
 obtain ⟨⟨rk,rn,rm,rl⟩,c59⟩:=r
 obtain ⟨da,cl,ins⟩:=v
 unfold LetC TypC ckC at *
 simp only [En.cells,List.cons_append,List.nil_append] at *
 refine Zc Tryz.func89 U (by kernel_rfl) U (Wc U) ?_
 refine QN ?_
 refine c_lena (t:=1) (j:=10) U U (.seq _ _) (fun hmax=>?_)
 refine Ql ?_
 refine Qem ?_
 refine Qdh ?_
 refine QE ?_;intro b4
 refine Qs ?_
 refine Qc6 ?_
 refine QcK ?_;intro n14
 refine Qam ?_
 refine Qcs ?_
 apply Yl (rg [(0,2),(6,3),(12,1),(15,10)]) (σ:=Nat × List ByteArray × Value) (fun zz=>match zz with|(i,acc,u)=>[(6,.own u 1 (strs acc)),(15,.val (.int .i64 i))]) (fun zz=>match zz with|(i,acc,u)=>[.loc b4 [.val (.int .i64 0),.val (.string kE),.val (.int .i64 0),.val (.slice none 0 0)],.own 9 1 u]) (fun zz=>match zz with|(i,acc,u)=>i≤bs.length∧acc=(bs.take i).map Cb.s) (fun zz=>match zz with|(i,acc,u)=>bs.length - i) ((0,[],.slice none 0 0))
 ·repeat' (first|exact Wf|apply Wd rfl|apply We rfl)
 ·exact ⟨Nat.zero_le _,U⟩
 ·exact Xy U (Le.nilOwn 1) (Xy U (Xu _) by5)
 ·exact by4
 rintro ⟨i,acc,u⟩ hI
 try dsimp only [List.cons_append,List.nil_append] at hI ⊢
 obtain ⟨hi,ha⟩:=hI
 have hol:(strs acc).length≤1000000000:=by rw [Ya,ha,List.length_map,List.length_take];omega
 refine Qan ?_;intro c16 h16
 refine Qy ?_
 obtain ⟨rfl,g16⟩|⟨rfl,g16⟩:=Za h16
 ·refine Qag ?_
  rw [List.take_of_length_le by17,hnb] at ha
  subst ha
  refine Qi ?_
  refine Qb8 ?_
  refine Qd ?_
  refine Zb 28 U U U (Zd (xs:=[.tmp 25,.tmp 27]) U U (HW) by2 ?_)
  refine Qd2 ?_;intro b9
  refine QeB ?_
  refine Qu ?_
  refine Qb8 ?_
  refine Qd2 ?_;intro b10
  refine QeB ?_
  refine Qa8 ?_
  refine QaE ?_;intro c32 h32
  refine Qa ?_
  apply c_joink (rg [(0,3),(7,2),(12,12),(25,9)]) (σ:=Unit) (fun zz=>match zz with|_x=>[]) (fun zz=>match zz with|_x=>[.loc b10 [.seq 17 (Cb.cellss S2),.seq 1 (strs vs),.seq 5 (Da.cellss da),.seq 6 (Cl.cellss cl),.seq 8 (In.cellss ins),.seq 9 (Pm.cellss pm)],.loc b9 [.seq 17 (Cb.cellss (sc++bs)),.seq 1 (strs vs),.seq 5 (Da.cellss da),.seq 6 (Cl.cellss cl),.seq 8 (In.cellss ins),.seq 9 (Pm.cellss pm)],.loc b4 [.val (.int .i64 0),.val (.string kE),.val (.int .i64 0),.val (.slice none 0 0)]]) (fun zz=>match zz with|_x=>True)
  ·repeat' (first|exact Wf|apply Wd rfl|apply We rfl)
  ·skip
   obtain ⟨rfl,g32⟩|⟨rfl,g32⟩:=Za h32
   ·refine QbL ?_
    first
    | rw [if_pos g32] at hS2;subst hS2;exact ⟨(),trivial,by5,by4⟩
    | rw [if_neg g32] at hS2;subst hS2;exact ⟨(),trivial,by5,by4⟩
   refine QbX ?_
   refine Zb 33 U U U (Zs (cs':=[_,_,_,_,_,_]) (i:=1) U ta_92 U U U U ?_)
   refine QeB ?_
   refine Qa2 ?_
   refine go_lp ?_
   first
   | rw [if_pos g32] at hS2;subst hS2;exact ⟨(),trivial,by5,by4⟩
   | rw [if_neg g32] at hS2;subst hS2;exact ⟨(),trivial,by5,by4⟩
  rintro _x hI
  try dsimp only [List.cons_append,List.nil_append] at hI ⊢
  refine Qbd ?_
  refine c_frzp (i:=0) 10 U U ?_
  refine Qi ?_
  refine Zb 34 U U U (op_makeFunc (fs:=[]) (cs:=[.tmp 3,.tmp 10]) U U U ?_)
  refine Q1 ?_
  refine Zw 50 (¬ (ks.length=1∧q1=true∧q2=true)) ?_ _ _ U ?_
  ·skip
   refine Qd ?_
   refine Qb9 ?_;intro n37
   refine QP ?_;intro c38 h38
   refine Qb ?_
   obtain ⟨rfl,g38⟩|⟨rfl,g38⟩:=Za h38
   ·skip
    refine Qf ?_
    refine Zo 41 U U U U U (Zg (xs:=[.tmp 40]) U U (HU) by2 ?_);intro c41 h41
    refine Qal ?_;intro c42 h42
    try replace h42:=Ym h42 h41
    refine Qv ?_
    obtain ⟨rfl,g42⟩|⟨rfl,g42⟩:=Za h42
    ·skip
     refine Qdu ?_
     refine Zo 48 U U U U U (Zg (xs:=[.tmp 46,.tmp 47]) U U (HA) by2 ?_);intro c48 h48
     refine Qal ?_;intro c49 h49
     try replace h49:=Ym h49 h48
     refine Qm ?_
     refine Wa U ?_ by6 by4
     clear HU HA HW HX;first|(simp_all;done)|(simp_all;omega)|grind
    skip
    refine QaH ?_
    refine Wa U ?_ by6 by4
    clear HU HA HW HX;first|(simp_all;done)|(simp_all;omega)|grind
   skip
   refine Qb1 ?_
   refine QaH ?_
   refine Wa U ?_ by6 by4
   clear HU HA HW HX;first|(simp_all;done)|(simp_all;omega)|grind
  intro c50 h50
  refine Qc ?_
  obtain ⟨rfl,g50⟩|⟨rfl,g50⟩:=Za h50
  ·refine Qp ?_
   have hq:=Classical.not_not.1 g50
   rw [if_pos hq] at hR
   subst hR
   obtain ⟨x,rfl⟩:=List.length_eq_one_iff.1 hq.1
   have HXx:=HX x rfl
   have hcx:=Co.cellss_get (ts:=[x]) (i:=0) (t:=x) rfl
   obtain ⟨xk,xs,xn,⟨xtk,xts,xtn,xtl⟩,xus,xks,xal,xbs⟩:=x
   refine QgT ?_
   refine Zi 52 (some 0) (i:=0) U U U U U (Zs (cs':=[_,_,_,_,_,_]) (i:=0) U ta_92 U U U U ⟨U,U⟩) ?_
   refine Qda ?_
   refine Zi 57 (none) (i:=5) U U U U U (Zd (xs:=[.tmp 52,.tmp 56]) U U (HXx) by2 ⟨U,U⟩) ?_
   refine Qd7 ?_
   refine Qd7 ?_
   refine QcL ?_
   refine QZ ?_
   show AGo _ _ _ _ _ _ _
   refine QI ?_
   exact Zy (i:=1) U U U U Zx U by1 (Xp _) ⟨U,U⟩
  refine QcU ?_
  refine Qaa ?_
  rw [if_neg g50] at hR
  subst hR
  exact Zy (i:=1) U U U U Zx U by1 (Xp _) ⟨U,U⟩
 refine Qk ?_
 obtain ⟨⟨qb,qvs,⟨qwk,qws,qwn,qwl⟩,⟨qk,qs,qn,⟨qtk,qts,qtn,qtl⟩,qus,qks,qal,qbs⟩⟩,hxq⟩:=Zj (l:=bs) (i:=i) by8
 have hcq:=Cb.cellss_get hxq
 have hmq:=Wg hxq
 refine Qi ?_
 refine Qey ?_
 refine QdJ ?_
 refine QdN ?_;intro b8
 refine Qdk ?_
 refine QdB ?_
 refine Qn ?_
 refine Zb 22 U U U (Zf (xs:=[.tmp 21]) Yy U U U U U U (Wc U) (Zb 23 U U U (Zv (i:=2) Yy U U U U (.seq _ _) by7 ?_)))
 intro u23
 refine Qcw ?_
 refine QcC ?_
 exact ⟨(i+1,acc++[qb],u23),⟨by show i+1≤bs.length;omega,by show acc++[qb]=_;rw [Yd hxq,List.map_append,← ha];rfl⟩,by show bs.length - (i+1)<bs.length - i;omega,Xy U (Wb (by rw [Xm];rfl)) by5,by4⟩
def altQ (v:En) (f:List Cb→List ByteArray→Co→Ty × Bool) (sc:List Cb) (vs:List ByteArray) (t u:Ty) (a:Ca):Bool:=match patC v a.q u with
 | none=>false
 | some l=>unlB a.q.names && ((f (sc++l) vs a.e).2 && (f (sc++l) vs a.e).1.eqC t)
theorem coCases1_c (v:En) (hv:EnT v) (pm:List Pm) (sc:List Cb) (vs:List ByteArray) (f:List Cb→List ByteArray→Co→Ty × Bool) (e:Co) (u:Ty) (hu:u.wd) (a:Ca) (hz:a.q.size≤500000000) (h1:sc.length≤500000000) (H:∀ l,patC v a.q u=some l→TypC v pm (sc++l) vs a.e (f (sc++l) vs a.e)):BCall Tryz.prog 151 [.agg a.cells,.cptr (ckC v (Pm.cellss pm) sc vs),.cptr u.cells,.cptr e.cells] (altQ v f sc vs e.t u a=true):=by
 have HQ:=coPat_c v hv (Pm.cellss pm) sc vs a.q.size a.q u (Nat.le_refl _) by17 hu
 have hql:=patC_len v a.q u
 have HN:=(tNames_c a.q by17).pure
 have HU:=unlike_c a.q.names
 obtain ⟨r,hr⟩:∃ r,altQ v f sc vs e.t u a=r:=⟨_,rfl⟩
 rw [hr]
 unfold altQ at hr
 obtain ⟨uk,us,un,ul⟩:=u
 cases ho:patC v a.q ⟨uk,us,un,ul⟩ with
 | none =>
  rw [ho] at hr HQ
  replace hr:false=r:=hr
  subst hr
  clear H hql ho
  unfold patT at HQ
  generalize unlB a.q.names=q1 at *
  obtain ⟨⟨qk,qs,qn,ql,qp⟩,⟨ek,es,en,⟨etk,ets,etn,etl⟩,eus,eks,eal,ebs⟩⟩:=a
  obtain ⟨k,s,n,⟨tk,ts,tn,tl⟩,us',ks,al,bs⟩:=e
  obtain ⟨da,cl,ins⟩:=v
  unfold ckC at *
  simp only [Ca.q,En.cells,List.cons_append,List.nil_append] at *
  refine QgU ?_
  refine Qe ?_
  refine Qfm ?_
  refine Qs ?_
  refine Qb8 ?_
  refine QaR ?_
  refine QdT ?_
  refine Q7 ?_
  refine Zb 13 U U U (Zd (xs:=[.tmp 9,.tmp 11,.tmp 12]) U U (HQ) by2 ?_)
  refine Qa0 ?_
  refine QG ?_
  refine c_boold 5 (False) Yx U ?_ _ _ U ?_
  ·skip
   refine QbZ ?_
   refine Qbh ?_
   refine Qa1 ?_
   refine Qaf ?_
   refine QH ?_
   refine Qcn ?_
   show BoolQ _ _ _ _ _ _
   refine Wa U ?_ by6 by4
   clear HQ HN HU;first|(simp_all;done)|grind
  intro c5 h5
  refine QI ?_
  exact Ze U U (Xu _) (Xp _) ⟨⟨_,h5.trans by18,U⟩,U⟩
 | some l =>
  rw [ho] at hr HQ
  have hl:=hql l ho
  have HX:=H l ho
  replace hr:(unlB a.q.names && ((f (sc++l) vs a.e).2 && (f (sc++l) vs a.e).1.eqC e.t))=r:=hr
  have HI:=coIs_c v pm (sc++l) vs a.e (f (sc++l) vs a.e) e.t HX
  have HW:=coWith_c v (Pm.cellss pm) sc l vs by17 by17
  clear H hql ho HX
  unfold patT at HQ
  obtain ⟨q2,hq2⟩:∃ q2,((f (sc++l) vs a.e).2 && (f (sc++l) vs a.e).1.eqC e.t)=q2:=⟨_,rfl⟩
  rw [hq2] at hr HI
  clear hq2
  generalize hnn:a.q.names=nn at *
  generalize unlB nn=q1 at *
  clear hnn
  obtain ⟨⟨qk,qs,qn,ql,qp⟩,⟨ek,es,en,⟨etk,ets,etn,etl⟩,eus,eks,eal,ebs⟩⟩:=a
  obtain ⟨k,s,n,⟨tk,ts,tn,tl⟩,us',ks,al,bs⟩:=e
  obtain ⟨da,cl,ins⟩:=v
  unfold ckC at *
  simp only [Ca.q,Ca.e,Co.t,En.cells,List.cons_append,List.nil_append,Option.getD_some,Option.isSome_some] at *
  refine QgU ?_
  refine Qe ?_
  refine Qfm ?_
  refine Qs ?_
  refine Qb8 ?_
  refine QaR ?_
  refine QdT ?_
  refine Q7 ?_
  refine Zb 13 U U U (Zd (xs:=[.tmp 9,.tmp 11,.tmp 12]) U U (HQ) by2 ?_)
  refine Qa0 ?_
  refine QG ?_
  refine c_boold 5 (q1=true∧q2=true) Yx U ?_ _ _ U ?_
  ·skip
   refine QbZ ?_
   refine QcI ?_
   refine Ye 19 U U U U (Zt (cs':=[_,_,_,_,_]) U ta_67 U U U ⟨U,U⟩) ?_
   refine Ye 20 U U U U (Zd (xs:=[.tmp 19]) U U (HN) by2 ⟨U,U⟩) ?_
   refine Yk 21 U U U U (fun _ q=>Zg (xs:=[.tmp 20]) U U (HU) by2 q) ?_;intro c21 h21
   refine Qa1 ?_
   obtain ⟨rfl,g21⟩|⟨rfl,g21⟩:=Za h21
   ·skip
    refine Qaf ?_
    refine QH ?_
    refine Qcn ?_
    show BoolQ _ _ _ _ _ _
    refine Wa U ?_ by6 by4
    clear HQ HN HU HW HI;first|(simp_all;done)|grind
   skip
   refine QfM ?_
   refine QaT ?_
   refine Ye 26 U U U U (Zd (xs:=[.tmp 24,.tmp 25]) U U (HW) by2 ⟨U,U⟩) ?_
   refine QcI ?_
   refine QgK ?_
   refine QcI ?_
   refine QeT ?_
   refine Yk 31 U U U U (fun _ q=>Zg (xs:=[.tmp 26,.tmp 28,.tmp 30]) U U (HI) by2 q) ?_;intro c31 h31
   refine QH ?_
   refine Qcn ?_
   show BoolQ _ _ _ _ _ _
   refine Wa U ?_ by6 by4
   clear HQ HN HU HW HI;first|(simp_all;done)|grind
  intro c5 h5
  refine QI ?_
  exact Ze U U (Xu _) (Xp _) ⟨⟨_,h5.trans (by rw [← hr];simp),U⟩,U⟩
section
variable {P:Program} {l:List Oper} {ws:List Nat} {anc:List (List Nat)} {QQ:Sl→Mem→Prop} {ord:List Nat} {al:Sl} {M:Mem} {L:List (Nat × Nat)} {o:Oper}
theorem EOps.dg {v:AV} {i j:Nat} {b:Bool} {t:Tmp} (d:Nat) (fp:Option Nat) (hi:l[i]?=some o) (hw:ws.contains i=false) (hg:o.guard=some (j,b)) (hj:(l[j]?).bind (·.dst)=some t) (hc:al.lookup t=some (.val (.bool b))) (hd:o.dst=some d) (hfp:fp.all (fun k=>Nat.blt k M.length)=true) (h:OpT P { o with guard:=none } (al.only (Oper.tmps o)) (fpm M fp) (fun v' M'=>v'=v∧M'=fpm M fp)) (q:EOps P l ws anc QQ ord ((d,v)::al) M ((fp.toList.map fun k=>(i,k))++L)):EOps P l ws anc QQ (i::ord) al M L :=
 ⟨o,hi,by rw [if_neg (by rw [hw];simp)];exact ⟨fp,v,hfp,by unfold DStep;rw [hg];exact ⟨t,hj,.inl ⟨hc,h⟩⟩,by rw [hd];exact q⟩⟩
theorem EOps.cmg {i j:Nat} {b:Bool} {t:Tmp} {p:Prop} (d:Nat) (hi:l[i]?=some o) (hw:ws.contains i=false) (hg:o.guard=some (j,b)) (hj:(l[j]?).bind (·.dst)=some t) (hc:al.lookup t=some (.val (.bool b))) (hd:o.dst=some d) (h:∀ K:AV→Mem→Prop,(∀ c:Bool,(c=true↔p)→K (.val (.bool c)) [])→OpT P { o with guard:=none } (al.only (Oper.tmps o)) [] K) (q:∀ c:Bool,(c=true↔p)→EOps P l ws anc QQ ord ((d,.val (.bool c))::al) M L):EOps P l ws anc QQ (i::ord) al M L:=by
 have:∃ c:Bool,c=true↔p:=by
  by_cases hp:p
  ·exact ⟨true,by simp [hp]⟩
  exact ⟨false,by simp [hp]⟩
 obtain ⟨c,hq⟩:=this
 refine EOps.dg d none hi hw hg hj hc hd U (h _ (fun c' hc'=>⟨?_,U⟩)) (q c hq)
 have:c'=c:=by cases c <;> cases c' <;> simp_all
 rw [this]
theorem EOps.df {i j:Nat} {b:Bool} {t:Tmp} (d:Nat) (hi:l[i]?=some o) (hw:ws.contains i=false) (hg:o.guard=some (j,b)) (hj:(l[j]?).bind (·.dst)=some t) (hc:al.lookup t=some (.val (.bool !b))) (hd:o.dst=some d) (q:EOps P l ws anc QQ ord ((d,.val undef)::al) M L):EOps P l ws anc QQ (i::ord) al M L :=
 ⟨o,hi,by rw [if_neg (by rw [hw];simp)];exact ⟨none,.val undef,rfl,by unfold DStep;rw [hg];exact ⟨t,hj,.inr ⟨.inl hc,rfl⟩⟩,by rw [hd];exact q⟩⟩
end
abbrev CasesC (v:En) (pm:List Pm) (sc:List Cb) (vs:List ByteArray) (e:Co) (r:Ty × Bool):Prop:=PCall Tryz.prog 90 [.agg (ckC v (Pm.cellss pm) sc vs),.agg e.cells] (.tup [.agg r.1.cells,.val (.bool r.2)])
theorem coCases_bad (v:En) (pm:List Pm) (sc:List Cb) (vs:List ByteArray) (k m:Int) (s:ByteArray) (t:Ty) (ts:List Ty) (ks:List Co) (al:List Ca) (bs:List Cb) (hb:¬ (ks.length=1∧rightC v vs t=true)):CasesC v pm sc vs (.mk k s m t ts ks al bs) (tyZ,false):=by
 have HR:=coRight_c v vs t
 generalize (rightC v vs t=true)=R at *
 have hlk:=Co.cellss_len ks
 obtain ⟨tk,tn,tm,tl⟩:=t
 obtain ⟨da,cl,ins⟩:=v
 unfold CasesC ckC at *
 simp only [En.cells,List.cons_append,List.nil_append] at *
 refine QfT ?_
 refine Qc8 ?_;intro b4
 refine Q1 ?_
 refine Zw 22 (True) ?_ _ _ U ?_
 ·skip
  refine Qd ?_
  refine Qb9 ?_;intro n10
  refine QP ?_;intro c11 h11
  refine Qb ?_
  obtain ⟨rfl,g11⟩|⟨rfl,g11⟩:=Za h11
  ·skip
   refine QaI ?_
   refine Qdj ?_
   refine QaI ?_
   refine QA ?_
   refine Qci ?_
   refine Zo 20 U U U U U (Zg (xs:=[.tmp 14,.tmp 17,.tmp 19]) U U (HR) by2 ?_);intro c20 h20
   refine Qal ?_;intro c21 h21
   try replace h21:=Ym h21 h20
   refine Qm ?_
   refine Wa U ?_ by6 by4
   clear HR;first|(simp_all;done)|(simp_all;omega)|grind
  skip
  refine Qx ?_
  refine QaH ?_
  refine Wa U ?_ by6 by4
  clear HR;first|(simp_all;done)|(simp_all;omega)|grind
 intro c22 h22
 refine Qc ?_
 obtain ⟨rfl,g22⟩|⟨rfl,g22⟩:=Za h22
 ·exact absurd trivial g22
 refine Qc7 ?_
 exact Zy (i:=0) U U U U Zx U by1 (Xp _) ⟨U,U⟩
theorem coCases_c (v:En) (pm:List Pm) (sc:List Cb) (vs:List ByteArray) (k m:Int) (s:ByteArray) (t:Ty) (ts:List Ty) (x:Co) (al:List Ca) (bs:List Cb) (r0:Ty × Bool) (q:Ca→Bool) (hb:rightC v vs t=true) (H:TypC v pm sc vs x r0)
    (HA:r0.2=true→∀ a∈al,BCall Tryz.prog 151 [.agg a.cells,.cptr (ckC v (Pm.cellss pm) sc vs),.cptr r0.1.cells,.cptr (Co.mk k s m t ts [x] al bs).cells] (q a=true)):CasesC v pm sc vs (.mk k s m t ts [x] al bs) (t,r0.2 && al.all q):=by
 have HR:=coRight_c v vs t
 rw [hb] at HR
 have hcx:=Co.cellss_get (ts:=[x]) (i:=0) (t:=x) rfl
 have hlx:(Co.cellss [x]).length=1:=rfl
 obtain ⟨⟨rk,rs,rn,rl⟩,c32⟩:=r0
 have HL:=fun h:c32=true=>all_Ca q 151 [] [.cptr (ckC v (Pm.cellss pm) sc vs),.cptr (Ty.mk rk rs rn rl).cells,.cptr (Co.mk k s m t ts [x] al bs).cells] al (HA h)
 clear HA
 generalize al.all q=w at *
 obtain ⟨tk,tn,tm,tl⟩:=t
 obtain ⟨xk,xs,xn,⟨xtk,xts,xtn,xtl⟩,xus,xks,xal,xbs⟩:=x
 obtain ⟨da,cl,ins⟩:=v
 unfold CasesC TypC ckC at *
 simp only [En.cells,List.cons_append,List.nil_append] at *
 cases c32 with
 | false =>
  refine QfT ?_
  refine Qc8 ?_;intro b4
  refine Q1 ?_
  refine Zw 22 (False) ?_ _ _ U ?_
  ·skip
   refine Qd ?_
   refine Qb9 ?_;intro n10
   refine QP ?_;intro c11 h11
   refine Qb ?_
   obtain ⟨rfl,g11⟩|⟨rfl,g11⟩:=Za h11
   ·skip
    refine QaI ?_
    refine Qdj ?_
    refine QaI ?_
    refine QA ?_
    refine Qci ?_
    refine Zo 20 U U U U U (Zg (xs:=[.tmp 14,.tmp 17,.tmp 19]) U U (HR) by2 ?_);intro c20 h20
    refine Qal ?_;intro c21 h21
    try replace h21:=Ym h21 h20
    refine Qm ?_
    refine Wa U ?_ by6 by4
    clear HR H HL;first|(simp_all;done)|grind
   skip
   refine Qx ?_
   refine QaH ?_
   refine Wa U ?_ by6 by4
   clear HR H HL;first|(simp_all;done)|grind
  intro c22 h22
  refine Qc ?_
  obtain ⟨rfl,g22⟩|⟨rfl,g22⟩:=Za h22
  ·refine Qp ?_
   refine QdS ?_
   refine QeA ?_
   refine Qda ?_
   refine Zi 30 (none) (i:=5) U U U U U (Zd (xs:=[.tmp 25,.tmp 29]) U U (H) by2 ⟨U,U⟩) ?_
   refine Qb4 ?_
   refine Xa (i:=9) U U U (Yb (cs':=[_,_,_,_]) U tz_24 U U (fun b6=>⟨_,U,?_⟩))
   refine QcL ?_
   refine QZ ?_
   show AGo _ _ _ _ _ _ _
   refine Qbd ?_
   refine QgV ?_
   refine Qcm ?_
   refine QbT ?_
   refine QbM ?_
   refine EOps.df 37 (i:=4) U U U U U U (EOps.df 38 (i:=5) U U U U U U (EOps.df 39 (i:=6) U U U U U U (EOps.df 40 (i:=7) U U U U U U ?_)))
   refine QeV ?_
   refine Qef ?_
   refine QZ ?_
   show AGo _ _ _ _ _ _ _
   refine QI ?_
   exact Zy (i:=0) U U U U Zx U by1 (Xp _) ⟨U,U⟩
  exact g22.elim
 | true =>
  have HL:=HL rfl
  refine QfT ?_
  refine Qc8 ?_;intro b4
  refine Q1 ?_
  refine Zw 22 (False) ?_ _ _ U ?_
  ·skip
   refine Qd ?_
   refine Qb9 ?_;intro n10
   refine QP ?_;intro c11 h11
   refine Qb ?_
   obtain ⟨rfl,g11⟩|⟨rfl,g11⟩:=Za h11
   ·skip
    refine QaI ?_
    refine Qdj ?_
    refine QaI ?_
    refine QA ?_
    refine Qci ?_
    refine Zo 20 U U U U U (Zg (xs:=[.tmp 14,.tmp 17,.tmp 19]) U U (HR) by2 ?_);intro c20 h20
    refine Qal ?_;intro c21 h21
    try replace h21:=Ym h21 h20
    refine Qm ?_
    refine Wa U ?_ by6 by4
    clear HR H HL;first|(simp_all;done)|grind
   skip
   refine Qx ?_
   refine QaH ?_
   refine Wa U ?_ by6 by4
   clear HR H HL;first|(simp_all;done)|grind
  intro c22 h22
  refine Qc ?_
  obtain ⟨rfl,g22⟩|⟨rfl,g22⟩:=Za h22
  ·refine Qp ?_
   refine QdS ?_
   refine QeA ?_
   refine Qda ?_
   refine Zi 30 (none) (i:=5) U U U U U (Zd (xs:=[.tmp 25,.tmp 29]) U U (H) by2 ⟨U,U⟩) ?_
   refine Qb4 ?_
   refine Xa (i:=9) U U U (Yb (cs':=[_,_,_,_]) U tz_24 U U (fun b6=>⟨_,U,?_⟩))
   refine QcL ?_
   refine QZ ?_
   show AGo _ _ _ _ _ _ _
   refine Qbd ?_
   refine c_frzp (i:=1) 6 U U ?_
   refine QgV ?_
   refine Qcm ?_
   refine QbT ?_
   refine QbM ?_
   refine EOps.dg 37 (none) (i:=4) U U U U U U U (op_fieldAddr_c U tf_29_6 U U ⟨U,U⟩) ?_
   refine EOps.dg 38 (none) (i:=5) U U U U U U U (op_load_c1 U ta_26 U U ⟨U,U⟩) ?_
   refine EOps.dg 39 (none) (i:=6) U U U U U U U (op_makeFunc (fs:=[]) (cs:=[.tmp 2,.tmp 6,.tmp 3]) U U U ⟨U,U⟩) ?_
   refine EOps.cmg 40 (i:=7) U U U U U U (fun _ q=>Zg (xs:=[.tmp 38,.tmp 39]) U U (HL) by2 q) ?_;intro c40 h40
   refine QeV ?_
   refine Qef ?_
   refine QZ ?_
   show AGo _ _ _ _ _ _ _
   refine QI ?_
   have hw:c40=(true && w):=by clear HR H HL;cases c40 <;> cases w <;> simp_all
   subst hw
   exact Zy (i:=0) U U U U Zx U by1 (Xp _) ⟨U,U⟩
  exact g22.elim
mutual
def Co.Sz:Co→Prop
 | .mk _ s _ _ ts ks al bs=>s.size≤1000000000000∧ts.length≤1000000∧Co.Szs ks∧Ca.Szs al∧Cb.Szs bs
def Co.Szs:List Co→Prop
 | []=>True
 | x::xs=>x.Sz∧Co.Szs xs
def Ca.Sz:Ca→Prop
 | .mk _ e=>e.Sz
def Ca.Szs:List Ca→Prop
 | []=>True
 | x::xs=>x.Sz∧Ca.Szs xs
def Cb.Sz:Cb→Prop
 | .mk _ _ _ e=>e.Sz
def Cb.Szs:List Cb→Prop
 | []=>True
 | x::xs=>x.Sz∧Cb.Szs xs
end
theorem Co.szs_iff:∀ l:List Co,Co.Szs l↔∀ x∈l,x.Sz
 | []=>by simp [Co.Szs]
 | x::l=>by simp [Co.Szs,Co.szs_iff l]
theorem Ca.szs_iff:∀ l:List Ca,Ca.Szs l↔∀ x∈l,x.Sz
 | []=>by simp [Ca.Szs]
 | x::l=>by simp [Ca.Szs,Ca.szs_iff l]
theorem Cb.szs_iff:∀ l:List Cb,Cb.Szs l↔∀ x∈l,x.Sz
 | []=>by simp [Cb.Szs]
 | x::l=>by simp [Cb.Szs,Cb.szs_iff l]
mutual
def Co.Okk:Co→Prop
 | .mk _ _ _ t ts ks al bs=>TK 3000 t∧(∀ u∈ts,TK 3000 u)∧Co.Okks ks∧Ca.Okks al∧Cb.Okks bs
def Co.Okks:List Co→Prop
 | []=>True
 | x::xs=>x.Okk∧Co.Okks xs
def Ca.Okk:Ca→Prop
 | .mk _ e=>e.Okk
def Ca.Okks:List Ca→Prop
 | []=>True
 | x::xs=>x.Okk∧Ca.Okks xs
def Cb.Okk:Cb→Prop
 | .mk _ _ t e=>TK 3000 t∧e.Okk
def Cb.Okks:List Cb→Prop
 | []=>True
 | x::xs=>x.Okk∧Cb.Okks xs
end
theorem Co.okks_iff:∀ l:List Co,Co.Okks l↔∀ x∈l,x.Okk
 | []=>by simp [Co.Okks]
 | x::l=>by simp [Co.Okks,Co.okks_iff l]
theorem Ca.okks_iff:∀ l:List Ca,Ca.Okks l↔∀ x∈l,x.Okk
 | []=>by simp [Ca.Okks]
 | x::l=>by simp [Ca.Okks,Ca.okks_iff l]
theorem Cb.okks_iff:∀ l:List Cb,Cb.Okks l↔∀ x∈l,x.Okk
 | []=>by simp [Cb.Okks]
 | x::l=>by simp [Cb.Okks,Cb.okks_iff l]
mutual
theorem Co.Ok.okk:∀ {e:Co},e.Ok→e.Okk
 | .mk _ _ _ _ _ _ _ _,h=>by
  rw [Co.Ok] at h
  rw [Co.Okk]
  obtain ⟨h1,h2,h3,h4,h5⟩:=h
  exact ⟨(TK.small h1).up by16,fun u hu=>(TK.small ((List.all_eq_true.1 h2) u hu)).up by16,Co.Oks.okk h3,Ca.Oks.okk h4,Cb.Oks.okk h5⟩
theorem Co.Oks.okk:∀ {l:List Co},Co.Oks l→Co.Okks l
 | [],_=>trivial
 | _::_,h=>⟨h.1.okk,Co.Oks.okk h.2⟩
theorem Ca.Oks.okk:∀ {l:List Ca},Ca.Oks l→Ca.Okks l
 | [],_=>trivial
 | .mk _ e::_,h=>⟨Co.Ok.okk (e:=e) h.1,Ca.Oks.okk h.2⟩
theorem Cb.Oks.okk:∀ {l:List Cb},Cb.Oks l→Cb.Okks l
 | [],_=>trivial
 | .mk _ _ _ e::_,h=>⟨⟨(TK.small h.1.1).up by16,Co.Ok.okk (e:=e) h.1.2⟩,Cb.Oks.okk h.2⟩
end
theorem Cb.Ns_at:∀ {l:List Cb} {b:Cb},b∈l→l.length+b.vs.length+b.e.N≤Cb.Ns l
 | .mk s vs t e::l,b,h=>by
  rw [Cb.Ns,Cb.N,List.length_cons]
  rcases List.mem_cons.1 h with rfl|h
  ·have:=Cb.Ns_len l
   simp only [Cb.vs,Cb.e];omega
  have:=Cb.Ns_at h;omega
theorem patC_tk {v:En} (hv:EnT v):∀ (z:Nat) (p:Pa) (u:Ty) (l:List Cb) (d:Nat),p.size≤z→patC v p u=some l→TK d u→∀ b∈l,TK (d+10000 * p.size) b.t
 | 0,p,_,_,_,h,_,_=>by cases p;rw [Pa.size] at h;omega
 | z+1,.mk k s n ks pp,u,l,d,hz,h,hu=>by
  rw [Pa.size] at hz ⊢
  rw [patC] at h
  split at h
  ·cases h;simp
  split at h
  ·cases h
   intro b hb
   rw [List.mem_singleton] at hb
   subst hb
   exact hu.up by17
  split at h
  ·split at h
   ·cases h;simp
   simp at h
  split at h
  ·simp at h
  rename_i d' c' hc
  split at h
  ·simp at h
  have hct:∀ t∈c'.ts,TK 9000 t:=fun t ht=>by
   obtain ⟨i,k',_,h2,h3⟩:=conJ_some (i0:=0) hc
   exact TK.size ((hv.ct _ (Wg h2) _ (Wg h3)).2 t ht) by16
  have hkid:∀ t∈u.kids,TK d t:=fun t ht=>by
   obtain ⟨uk,us,un,ul⟩:=u
   exact hu.kid ht
  have key:∀ (ps:List Pa) (ts:List Ty) (l:List Cb),Pa.sizes ps≤z→(∀ t∈ts,TK (9000+d) t)→patCs v ps ts=some l→∀ b∈l,TK (9000+d+10000 * Pa.sizes ps) b.t:=by
   intro ps
   induction ps with
   | nil=>intro ts l _ _ h;rw [patCs] at h;cases h;simp;simp
   | cons p ps ih =>
    intro ts l hz ht h
    cases ts with
    | nil=>rw [patCs] at h;cases h;simp;simp
    | cons t ts =>
     rw [Pa.sizes] at hz ⊢
     rw [patCs] at h
     cases h1:patC v p t with
     | none=>rw [h1] at h;simp at h
     | some a =>
      rw [h1] at h
      simp only [] at h
      cases h2:patCs v ps ts with
      | none=>rw [h2] at h;simp at h
      | some m =>
       rw [h2] at h
       cases h
       intro b hb
       rcases List.mem_append.1 hb with hb|hb
       ·exact (patC_tk hv z p t a (9000+d) by17 h1 (ht t by18) b hb).up by17
       exact (ih ts m by17 (fun x hx=>ht x (by simp [hx])) h2 b hb).up by17
  intro b hb
  refine (key ks _ l by17 (fun t ht=>?_) h b hb).up by17
  obtain ⟨x,hx,rfl⟩:=List.mem_map.1 ht
  exact (hct x hx).turn hkid
theorem partsC_tk {v:En} (hv:EnT v) {s:ByteArray} {u:Ty} {l:List Ty} {d:Nat} (h:partsC v s u=some l) (hu:TK d u):∀ t∈l,TK (9001+d) t:=by
 unfold partsC at h
 split at h
 ·simp at h
 rename_i hc
 obtain ⟨c,h1,_⟩:=classI_hit (v:=v) (s:=s) by17
 rw [h1] at h
 cases h
 intro t ht
 rcases List.mem_append.1 ht with ht|ht
 ·obtain ⟨w,_,rfl⟩:=List.mem_map.1 ht
  exact (TK.mk (d:=d) by18 (by simpa using hu)).up by17
 obtain ⟨m,hm,rfl⟩:=List.mem_map.1 ht
 exact ((TK.size (hv.mt c (Wg h1) m hm) by16).turn (ts:=[u]) (by simpa using hu)).up by17
end Go.Proofs.YteepjjgooplljaaGreat
namespace Go.Proofs.YteepjjgooplljaaGreat
def appK (F:Co→Ty × Bool):List Co→Ty × Bool
 | [f,x]=>appQ (F f) (F x)
 | _=>(tyZ,false)
def lamK (r:Bool) (t:Ty) (F:Co→Ty × Bool):List Co→Ty × Bool
 | [x]=>if r=true then (.mk 3 arrow 0 [t,(F x).1],(F x).2) else (tyZ,false)
 | _=>(tyZ,false)
def letK (a b:Bool) (F:Co→Ty × Bool):List Co→Ty × Bool
 | [x]=>if a=true∧b=true then F x else (tyZ,false)
 | _=>(tyZ,false)
def casesK (r:Bool) (t:Ty) (F:Co→Ty × Bool) (G:Ty→Bool):List Co→Ty × Bool
 | [x]=>if r=true then (t,(F x).2 && G (F x).1) else (tyZ,false)
 | _=>(tyZ,false)
def selQ (v:En) (s:ByteArray) (m:Int) (r:Ty × Bool):Ty × Bool:=match r with
 | (.mk 3 c _ [u],true)=>if c=kBr++s then (match partsC v s u with
     | none=>(tyZ,false)
     | some l=>if m<0 then (tyZ,false) else match l[m.toNat]? with
      | none=>(tyZ,false)
      | some r=>(r,true)) else (tyZ,false)
 | _=>(tyZ,false)
theorem selQ_no {v:En} {s:ByteArray} {m:Int} {r:Ty × Bool} (hb:¬ (r.2=true∧r.1.kind=3∧r.1.name=kBr++s∧r.1.kids.length=1)):selQ v s m r=(tyZ,false):=by
 unfold selQ
 split
 ·split
  ·rename_i c n' u hc
   exact absurd ⟨U,U,hc,U⟩ hb
  rfl
 rfl
theorem selQ_yes {v:En} {s:ByteArray} {m n:Int} {u:Ty}:selQ v s m (.mk 3 (kBr++s) n [u],true)=(match partsC v s u with
    | none=>(tyZ,false)
    | some l=>getQ l m):=by
 unfold selQ getQ
 exact if_pos U
theorem selG_law {v:En} {s:ByteArray} {m:Int} {N F:Ty} {c:Bool} {P:Ty→List Ty→Bool→Prop} (hN:c=true→N=F) (hP:∀ u,N.kids=[u]→P u ((partsC v s u).getD []) (partsC v s u).isSome):SelG s m N c (selQ v s m (F,c)) P:=by
 refine ⟨fun q=>selQ_no (fun w=>q ⟨w.1,by rw [hN w.1];exact w.2⟩),?_⟩
 rintro ⟨rfl,q2,q3,q4⟩
 obtain rfl:=hN rfl
 obtain ⟨nk,ns,nn,nl⟩:=N
 replace q2:nk=3:=q2
 replace q3:ns=kBr++s:=q3
 obtain ⟨u,rfl⟩:=List.length_eq_one_iff.1 (show nl.length=1 from q4)
 subst q2 q3
 exact ⟨u,_,_,U,hP u U,getQ_law m _ _ selQ_yes.symm⟩
def selK (v:En) (s:ByteArray) (m:Int) (F:Co→Ty × Bool):List Co→Ty × Bool
 | [x]=>selQ v s m (F x)
 | _=>(tyZ,false)
theorem coP_succ (v:En) (pm:List Pm) (n:Nat) (sc:List Cb) (vs:List ByteArray) (k m:Int) (s:ByteArray) (t:Ty) (ts:List Ty) (ks:List Co) (al:List Ca) (bs:List Cb):coP v pm (n+1) sc vs (.mk k s m t ts ks al bs) =
    if (ts.all (rightC v vs))=false then (tyZ,false)
    else if k=1 then varC sc s ts
    else if k=2 then (tInt,true)
    else if k=3 then (tStr,true)
    else if k=4 then conQ v (coP v pm n sc vs) s ts ks
    else if k=5 then appK (coP v pm n sc vs) ks
    else if k=6 then lamK (rightC v vs t) t (coP v pm n (sc++[.mk s [] t co0]) vs) ks
    else if k=7 then letK (unlB (bs.map Cb.s)) (bs.all fun b=>(decide (m≠1) || decide (b.e.k=6)) && bindC (coP v pm n) v (if m=1 then sc++bs else sc) vs b) (coP v pm n (sc++bs) vs) ks
    else if k=8 then casesK (rightC v vs t) t (coP v pm n sc vs) (fun u=>al.all fun a=>altQ v (coP v pm n) sc vs t u a) ks
    else if k=9 then primQ pm (coP v pm n sc vs) m ts ks
    else if k=10 then dictQ v vs (coP v pm n sc vs) s t ks
    else if k=11 then selK v s m (coP v pm n sc vs) ks
    else (tyZ,false):=rfl
open Go.RowKit
theorem Xb {p:Prop} [Decidable p] {a b:Ty × Bool} {Q:Ty→Prop} (h1:Q a.1) (h2:Q b.1):Q (if p then a else b).1:=by
 by_cases h:p
 ·rw [if_pos h];exact h1
 rw [if_neg h];exact h2
theorem not1 {F:List Co→Ty × Bool} (h0:F []=(tyZ,false)) (h2:∀ x y l,F (x::y::l)=(tyZ,false)) {ks:List Co} (hl:¬ ks.length=1):F ks=(tyZ,false):=by
 match ks,hl with
 | [],_=>exact h0
 | [_],h=>exact absurd rfl h
 | x::y::l,_=>exact h2 x y l
theorem typ_all (v:En) (hv:EnT v) (pm:List Pm) (hpm:∀ p∈pm,p.sc.t.size≤1000):∀ (n:Nat) (e:Co) (K:Nat) (sc:List Cb) (vs:List ByteArray),e.size≤n→e.Okk→e.Sz→SK K sc vs→K+e.N≤9000000→TypC v pm sc vs e (coP v pm n sc vs e)∧TK (10000 * (K+e.N)) (coP v pm n sc vs e).1
 | 0,e,_,_,_,h,_,_,_,_=>by cases e;rw [Co.size] at h;omega
 | n+1,.mk k s m t ts ks al bs,K,sc,vs,hn,hok,hsz,hsk,hK=>by
  have IH:=typ_all v hv pm hpm n
  rw [Co.size] at hn
  rw [Co.Okk] at hok
  rw [Co.Sz] at hsz
  rw [Co.N] at hK ⊢
  obtain ⟨ot,ots,oks,oal,obs⟩:=hok
  obtain ⟨zs,zts,zks,zal,zbs⟩:=hsz
  have hT:TK 3000 t:=ot
  have hTS:∀ u∈ts,TK 3000 u:=ots
  have hZ:∀ d,1≤d→TK d tyZ:=fun d hd=>TK.zero.up hd
  have IK:∀ x∈ks,TypC v pm sc vs x (coP v pm n sc vs x)∧TK (10000 * (K+x.N)) (coP v pm n sc vs x).1:=fun x hx=>IH x K sc vs (by have:=Co.size_mem hx;omega) ((Co.okks_iff _).1 oks x hx) ((Co.szs_iff _).1 zks x hx) hsk (by have:=Co.Ns_mem hx;omega)
  have HL:∀ x,ks=[x]→TypC v pm (sc++[.mk s [] t co0]) vs x (coP v pm n (sc++[.mk s [] t co0]) vs x)∧TK (10000 * (K+1+x.N)) (coP v pm n (sc++[.mk s [] t co0]) vs x).1:=fun x hx=>by
   subst hx
   have hxn:x.N=Co.Ns [x]:=by simp [Co.Ns]
   have hsk2:SK (K+1) (sc++[.mk s [] t co0]) vs:=⟨by have:=hsk.len;simp;omega,by have:=hsk.vl;omega,fun b hb=>by
    rcases List.mem_append.1 hb with hb|hb
    ·exact (hsk.tk b hb).up by17
    rw [List.mem_singleton] at hb
    subst hb
    exact hT.up by17⟩
   exact IH x (K+1) (sc++[.mk s [] t co0]) vs (by have:=Co.size_mem (l:=[x]) (x:=x) by18;omega) ((Co.okks_iff _).1 oks x by18) ((Co.szs_iff _).1 zks x by18) hsk2 by17
  have hbl:=Cb.Ns_len bs
  have hSa:SK (K+bs.length) (sc++bs) vs:=⟨by have:=hsk.len;simp;omega,by have:=hsk.vl;omega,fun b hb=>by
   rcases List.mem_append.1 hb with hb|hb
   ·exact (hsk.tk b hb).up by17
   have hob:=(Cb.okks_iff _).1 obs b hb
   have hpos:1≤bs.length:=List.length_pos_of_mem hb
   cases b with|mk bn bv bt be=>exact hob.1.up by17⟩
  have hS2:∀ b∈bs,SK (K+bs.length+b.vs.length) (if m=1 then sc++bs else sc) (vs++b.vs):=fun b hb=>by
   have h2:SK (K+bs.length) (if m=1 then sc++bs else sc) vs:=by
    split
    ·exact hSa
    exact hsk.up by17
   exact ⟨by have:=h2.len;omega,by have:=hsk.vl;simp;omega,fun c hc=>(h2.tk c hc).up by17⟩
  have HB:∀ b∈bs,BCall Tryz.prog 43 [.agg (ckC v (Pm.cellss pm) (if m=1 then sc++bs else sc) vs),.agg b.cells] (bindC (coP v pm n) v (if m=1 then sc++bs else sc) vs b=true):=fun b hb=>by
   have hbn:=Cb.Ns_at hb
   have hob:=(Cb.okks_iff _).1 obs b hb
   have hzb:=(Cb.szs_iff _).1 zbs b hb
   have hsb:=Cb.size_mem hb
   refine coBind_c v pm _ vs (coP v pm n) b (by have:=hsk.vl;omega) by17 ?_
   have hs2:=hS2 b hb
   obtain ⟨bn,bv,bt,be⟩:=b
   rw [Cb.Okk] at hob
   rw [Cb.Sz] at hzb
   rw [Cb.size] at hsb
   have hbn:bs.length+bv.length+be.N≤Cb.Ns bs:=hbn
   have hs2:SK (K+bs.length+bv.length) (if m=1 then sc++bs else sc) (vs++bv):=hs2
   exact (IH be _ _ _ by17 hob.2 hzb hs2 by17).1
  have HX:∀ x,ks=[x]→TypC v pm (sc++bs) vs x (coP v pm n (sc++bs) vs x)∧TK (10000 * (K+bs.length+x.N)) (coP v pm n (sc++bs) vs x).1:=fun x hx=>by
   subst hx
   have hxn:x.N=Co.Ns [x]:=by simp [Co.Ns]
   exact IH x _ _ _ (by have:=Co.size_mem (l:=[x]) (x:=x) by18;omega) ((Co.okks_iff _).1 oks x by18) ((Co.szs_iff _).1 zks x by18) hSa by17
  obtain ⟨r,hr⟩:∃ r,coP v pm (n+1) sc vs (.mk k s m t ts ks al bs)=r:=⟨_,rfl⟩
  rw [hr]
  rw [coP_succ] at hr
  constructor
  ·refine typ_one v pm sc vs k m s t ts ks al bs r zs (by have:=hsk.len;omega) (fun u hu=>(hTS u hu).1) (fun h=>by rw [if_pos h] at hr;exact hr.symm) (fun h=>?_)
   rw [if_neg (by simp [h])] at hr
   constructor
   ·intro q
    subst q
    exact ⟨hr,fun b hb=>(hsk.tk b (findL_mem hb)).1⟩
   ·intro q
    subst q
    exact hr.symm
   ·intro q
    subst q
    exact hr.symm
   ·rintro (rfl|rfl|rfl|rfl|rfl)
    ·replace hr:conQ v (coP v pm n sc vs) s ts ks=r:=hr
     subst hr
     exact coCon_c v pm sc vs (coP v pm n sc vs) 4 m s t ts ks al bs (fun x hx=>(IK x hx).1) (fun u hu=>(hTS u hu).1) by17 (fun d hd c hc=>⟨fun u hu=>(TK.size ((hv.ct d hd c hc).2 u hu) by16).1,by have:=(hv.ct d hd c hc).1;omega⟩)
    ·replace hr:letK (unlB (bs.map Cb.s)) (bs.all fun b=>(decide (m≠1) || decide (b.e.k=6)) && bindC (coP v pm n) v (if m=1 then sc++bs else sc) vs b) (coP v pm n (sc++bs) vs) ks=r:=hr
     by_cases hl:ks.length=1
     ·obtain ⟨x,rfl⟩:=List.length_eq_one_iff.1 hl
      have hxn:x.N=Co.Ns [x]:=by simp [Co.Ns]
      have H:=coLet_c v pm sc vs 7 m s t ts [x] al bs (bindC (coP v pm n) v (if m=1 then sc++bs else sc) vs) (coP v pm n (sc++bs) vs x) (by have:=hsk.len;omega) by17 HB (fun y hy=>by
       cases hy
       exact (HX x U).1)
      rw [letK] at hr
      by_cases q:unlB (bs.map Cb.s)=true∧(bs.all fun b=>(decide (m≠1) || decide (b.e.k=6)) && bindC (coP v pm n) v (if m=1 then sc++bs else sc) vs b)=true
      ·rw [if_pos q] at hr
       rw [if_pos ⟨rfl,q⟩] at H
       subst hr
       exact H
      rw [if_neg q] at hr
      rw [if_neg (fun h=>q h.2)] at H
      subst hr
      exact H
     have H:=coLet_c v pm sc vs 7 m s t ts ks al bs (bindC (coP v pm n) v (if m=1 then sc++bs else sc) vs) (tyZ,false) (by have:=hsk.len;omega) by17 HB (fun y hy=>absurd (by rw [hy];rfl) hl)
     rw [if_neg (fun q=>hl q.1)] at H
     rw [not1 (F:=fun ks=>letK _ _ (coP v pm n (sc++bs) vs) ks) rfl (fun _ _ _=>rfl) hl] at hr
     subst hr
     exact H
    ·replace hr:casesK (rightC v vs t) t (coP v pm n sc vs) (fun u=>al.all fun a=>altQ v (coP v pm n) sc vs t u a) ks=r:=hr
     by_cases hl:ks.length=1
     ·obtain ⟨x,rfl⟩:=List.length_eq_one_iff.1 hl
      have hxn:x.N=Co.Ns [x]:=by simp [Co.Ns]
      rw [casesK] at hr
      by_cases hrt:rightC v vs t=true
      ·rw [if_pos hrt] at hr
       subst hr
       obtain ⟨H,T⟩:=IK x by18
       refine coCases_c v pm sc vs 8 m s t ts x al bs _ (fun a=>altQ v (coP v pm n) sc vs t (coP v pm n sc vs x).1 a) hrt H (fun hok a ha=>?_)
       have han:=Ca.Ns_mem ha
       have hoa:=(Ca.okks_iff _).1 oal a ha
       have hza:=(Ca.szs_iff _).1 zal a ha
       have hsa:=Ca.size_mem ha
       refine coCases1_c v hv pm sc vs (coP v pm n) (.mk 8 s m t ts [x] al bs) (coP v pm n sc vs x).1 T.1 a (by cases a;rw [Ca.N] at han;simp only [Ca.q];omega) (by have:=hsk.len;omega) (fun l hpl=>?_)
       have hpt:=patC_tk hv a.q.size a.q _ l _ (Nat.le_refl _) hpl T
       have hpn:=patC_len v a.q _ l hpl
       obtain ⟨q,ae⟩:=a
       rw [Ca.N] at han
       rw [Ca.Okk] at hoa
       rw [Ca.Sz] at hza
       rw [Ca.size] at hsa
       simp only [Ca.q] at hpt hpn
       refine (IH ae (K+x.N+q.size) (sc++l) vs by17 hoa hza ⟨by have:=hsk.len;simp;omega,by have:=hsk.vl;omega,fun b hb=>?_⟩ by17).1
       rcases List.mem_append.1 hb with hb|hb
       ·exact (hsk.tk b hb).up by17
       exact (hpt b hb).up by17
      rw [if_neg hrt] at hr
      subst hr
      exact coCases_bad v pm sc vs 8 m s t ts [x] al bs (fun q=>hrt q.2)
     rw [not1 (F:=fun ks=>casesK _ t (coP v pm n sc vs) _ ks) rfl (fun _ _ _=>rfl) hl] at hr
     subst hr
     exact coCases_bad v pm sc vs 8 m s t ts ks al bs (fun q=>hl q.1)
    ·replace hr:primQ pm (coP v pm n sc vs) m ts ks=r:=hr
     subst hr
     exact coPrim_c v pm sc vs (coP v pm n sc vs) 9 m s t ts ks al bs (fun x hx=>(IK x hx).1) (fun u hu=>(hTS u hu).1) hpm
    replace hr:selK v s m (coP v pm n sc vs) ks=r:=hr
    refine coPart_c v pm sc vs 11 m s t ts ks al bs r zs (fun hl=>hr.symm.trans (not1 (F:=fun ks=>selK v s m (coP v pm n sc vs) ks) U (fun _ _ _=>U) hl)) (fun x hx=>?_)
    subst hx
    replace hr:selQ v s m (coP v pm n sc vs x)=r:=hr
    obtain ⟨H,T⟩:=IK x by18
    refine ⟨_,_,H,?_⟩
    rw [← hr]
    refine selG_law (fun _=>U) (fun u hu=>?_)
    have hw:u.wd:=by
     generalize (coP v pm n sc vs x).1=N at *
     obtain ⟨nk,ns,nn,nl⟩:=N
     obtain rfl:nl=[u]:=hu
     exact (T.kid by18).1
    cases hp:partsC v s u with
    | none=>exact coParts_none v s u hp
    | some l=>exact coParts_some v hv s u hw l hp
   ·intro q hl
    subst q
    refine hr.symm.trans ?_
    match ks,hl with
    | [],_=>rfl
    | [_],_=>rfl
    | [_,_],h=>exact absurd rfl h
    | _::_::_::_,_=>rfl
   ·intro q f x e
    subst q e
    obtain ⟨Hf,Tf⟩:=IK f by18
    obtain ⟨Hx,_⟩:=IK x by18
    have hda:=(args_dp _ (coP v pm n sc vs f).1 (Nat.le_refl _)).1
    have hfn:f.N+x.N≤Co.Ns [f,x]:=by simp [Co.Ns]
    have HG:=ArgsL_c (coP v pm n sc vs f).1 (by have:=Tf.2;omega)
    have HI:=fun a=>coIs_c v pm sc vs x (coP v pm n sc vs x) a Hx
    replace hr:appQ (coP v pm n sc vs f) (coP v pm n sc vs x)=r:=hr
    clear Tf hda
    generalize coP v pm n sc vs f=rf at *
    generalize coP v pm n sc vs x=rx at *
    obtain ⟨F,c⟩:=rf
    unfold appQ at hr
    by_cases hf:F.isFun
    ·obtain ⟨l,a,b,rfl⟩:=Ty.fun_kids hf
     rw [Ty.args_fun] at HG hr
     refine ⟨_,c,a::b.args,_,a,b,_,Hf,HG,fun _=>⟨U,U⟩,HI a,fun q=>?_,fun q=>?_⟩
     ·rw [← hr,if_pos q.1]
      exact if_pos ⟨by simp,q.2.2⟩
     rw [← hr]
     by_cases q1:c=true
     ·rw [if_pos q1]
      exact if_neg (fun k=>q ⟨q1,by simp,k.2⟩)
     rw [if_neg q1]
    have h0:=Ty.args_not hf
    have hr0:r=(tyZ,false):=by
     rw [← hr]
     split
     ·split
      ·rw [if_neg (fun k=>k.1 h0)]
      rfl
     rfl
    exact ⟨F,c,F.args,_,tyZ,tyZ,_,Hf,HG,fun q=>absurd (by rw [h0];rfl) q,HI tyZ,fun q=>absurd (by rw [h0];rfl) q.2.1,fun _=>hr0⟩
   ·intro q hb
    subst q
    replace hr:lamK (rightC v vs t) t (coP v pm n (sc++[.mk s [] t co0]) vs) ks=r:=hr
    by_cases hl:ks.length=1
    ·obtain ⟨x,rfl⟩:=List.length_eq_one_iff.1 hl
     rw [lamK,if_neg (fun h=>hb ⟨hl,h⟩)] at hr
     exact hr.symm
    exact hr.symm.trans (not1 (F:=fun ks=>lamK _ t (coP v pm n (sc++[.mk s [] t co0]) vs) ks) U (fun _ _ _=>U) hl)
   ·intro q x e hrt
    subst q e
    replace hr:lamK (rightC v vs t) t (coP v pm n (sc++[.mk s [] t co0]) vs) [x]=r:=hr
    rw [lamK,if_pos hrt] at hr
    exact ⟨_,_,(HL x U).1,hr.symm⟩
   ·intro q
    subst q
    replace hr:dictQ v vs (coP v pm n sc vs) s t ks=r:=hr
    unfold dictQ starC at hr
    cases hp:partsC v s t with
    | none =>
     rw [hp] at hr
     exact ⟨[],false,_,coParts_none v s t hp,coOf_c v pm sc vs (coP v pm n sc vs) ks [] (fun x hx=>(IK x hx).1),by rw [← hr,Bool.and_false,Bool.false_and]⟩
    | some l =>
     rw [hp] at hr
     exact ⟨l,true,_,coParts_some v hv s t hT.1 l hp,coOf_c v pm sc vs (coP v pm n sc vs) ks l (fun x hx=>(IK x hx).1),by rw [← hr,Bool.true_and]⟩
   intro q
   rw [if_neg by17,if_neg by17,if_neg by17,if_neg by17,if_neg by17,if_neg by17,if_neg by17,if_neg by17,if_neg by17,if_neg by17,if_neg by17] at hr
   exact hr.symm
  rw [← hr]
  refine Xb (hZ _ by17) (Xb ?_ (Xb ((TK.size (d:=1) (by simp [Ty.size,Ty.sizes]) by16).up by17) (Xb ((TK.size (d:=1) (by simp [Ty.size,Ty.sizes]) by16).up by17) (Xb ?_ (Xb ?_ (Xb ?_ (Xb ?_ (Xb ?_ (Xb ?_ (Xb ((TK.mk (d:=3000) by18 (by simpa using hT)).up by17) (Xb ?_ (hZ _ by17))))))))))))
  ·unfold varC
   cases hf:findL s sc with
   | none=>exact hZ _ by17
   | some b=>exact Xb (((hsk.tk b (findL_mem hf)).turn hTS).up by17) (hZ _ by17)
  ·unfold conQ
   cases conC s v.da with
   | none=>exact hZ _ by17
   | some dc=>exact Xb ((TK.mk (d:=3000) zts hTS).up by17) (hZ _ by17)
  ·rcases ks with _|⟨f,_|⟨x,_|⟨_,_⟩⟩⟩
   ·exact hZ _ by17
   ·exact hZ _ by17
   ·have Tf:=(IK f by18).2
    have hfn:f.N+x.N≤Co.Ns [f,x]:=by simp [Co.Ns]
    show TK _ (appQ (coP v pm n sc vs f) (coP v pm n sc vs x)).1
    unfold appQ
    split
    ·split
     ·rename_i a b he
      rw [he] at Tf
      exact Xb ((Tf.kid (t:=b) by18).up by17) (hZ _ by17)
     exact hZ _ by17
    exact hZ _ by17
   exact hZ _ by17
  ·rcases ks with _|⟨x,_|⟨_,_⟩⟩
   ·exact hZ _ by17
   ·have hxn:x.N=Co.Ns [x]:=by simp [Co.Ns]
    refine Xb ((TK.mk (d:=10000 * (K+1+x.N)) by18 (fun u hu=>?_)).up by17) (hZ _ by17)
    simp only [List.mem_cons,List.not_mem_nil,or_false] at hu
    rcases hu with rfl|rfl
    ·exact hT.up by17
    exact (HL x U).2
   exact hZ _ by17
  ·rcases ks with _|⟨x,_|⟨_,_⟩⟩
   ·exact hZ _ by17
   ·have hxn:x.N=Co.Ns [x]:=by simp [Co.Ns]
    exact Xb ((HX x U).2.up by17) (hZ _ by17)
   exact hZ _ by17
  ·rcases ks with _|⟨x,_|⟨_,_⟩⟩
   ·exact hZ _ by17
   ·exact Xb (hT.up by17) (hZ _ by17)
   exact hZ _ by17
  ·unfold primQ
   refine Xb (hZ _ by17) ?_
   split
   ·exact hZ _ by17
   rename_i p hp
   exact Xb ((((args_dp _ p.sc.t (Nat.le_refl _)).2.2 1000 (TK.size (hpm p (Wg hp)) by16)).turn hTS).up by17) (hZ _ by17)
  rcases ks with _|⟨x,_|⟨_,_⟩⟩
  ·exact hZ _ by17
  ·have hxn:x.N=Co.Ns [x]:=by simp [Co.Ns]
   have T:=(IK x by18).2
   show TK _ (selQ v s m (coP v pm n sc vs x)).1
   generalize coP v pm n sc vs x=r0 at *
   unfold selQ
   split
   ·rename_i n' u
    refine Xb ?_ (hZ _ by17)
    have hu:TK (10000 * (K+x.N)) u:=T.kid by18
    cases hp:partsC v s u with
    | none=>exact hZ _ by17
    | some l =>
     refine Xb (hZ _ by17) ?_
     cases hy:l[m.toNat]? with
     | none=>exact hZ _ by17
     | some y=>exact (partsC_tk hv hp hu y (Wg hy)).up by17
   exact hZ _ by17
  exact hZ _ by17
def chkC (q:Cb→Bool):List ByteArray→List Cb→Nat→Option Nat
 | _,[],_=>none
 | pre,b::l,i=>if hasB pre b.s=true∨q b=false then some i else chkC q (pre++[b.s]) l (i+1)
theorem coCheck1_c (x b:Cb):BCall Tryz.prog 41 [.agg x.cells,.cptr b.cells] (sameB x.s b.s=true):=by
 rw [show (sameB x.s b.s=true)=(x.s=b.s) from propext Yt]
 obtain ⟨qb,qvs,⟨qwk,qws,qwn,qwl⟩,⟨qk,qs,qn,⟨qtk,qts,qtn,qtl⟩,qus,qks,qal,qbs⟩⟩:=x
 obtain ⟨zb,zvs,⟨zwk,zws,zwn,zwl⟩,⟨zk,zs,zn,⟨ztk,zts,ztn,ztl⟩,zus,zks,zal,zbs⟩⟩:=b
 simp only [Cb.s]
 refine Zc Tryz.func41 U (by kernel_rfl) U (Wc U) ?_
 refine Qe ?_
 refine Qea ?_
 refine Qs ?_
 refine Qd ?_
 refine Qd ?_
 refine Qas ?_;intro c8 h8
 refine Qo ?_
 exact Ze U U (Xu _) (Xp _) ⟨⟨_,h8,U⟩,U⟩
theorem Cb.cellss_take (l:List Cb) (n:Nat):(Cb.cellss l).take n=Cb.cellss (l.take n):=by rw [Cb.cellss_map,Cb.cellss_map,List.map_take]
def chkT:Option Nat→AV
 | none=>.tup [.val (.int .i64 0),.val (.bool true)]
 | some i=>.tup [.val (.int .i64 i),.val (.bool false)]
theorem coCheck_c (v:En) (bs:List Cb) (q:Cb→Bool) (HB:∀ b∈bs,BCall Tryz.prog 43 [.agg (ckC v (Pm.cellss prims) bs []),.agg b.cells] (q b=true)):PCall Tryz.prog 16 [.agg v.cells,.agg [.seq 17 (Cb.cellss bs)]] (chkT (chkC q [] bs 0)):=by
 have HS:=coStart_c v bs []
 have HF:=fun (i:Nat) (b:Cb)=>CoF_Cb (fun x=>sameB x.s b.s) 41 [] [.cptr b.cells] (bs.take i) (fun x _=>coCheck1_c x b)
 have hany:∀ (i:Nat) (s:ByteArray),((bs.take i).any fun x=>sameB x.s s)=hasB ((bs.take i).map Cb.s) s:=fun i s=>by
  unfold hasB
  rw [List.any_map]
  congr 1
  funext x
  show sameB x.s s=sameB s x.s
  unfold sameB
  exact decide_eq_decide.2 ⟨Eq.symm,Eq.symm⟩
 obtain ⟨r,hr⟩:∃ r,chkC q [] bs 0=r:=⟨_,rfl⟩
 rw [hr]
 have hlb:=Cb.cellss_len bs
 obtain ⟨da,cl,ins⟩:=v
 unfold ckC at *
 simp only [En.cells,List.cons_append,List.nil_append] at *
 refine Zc Tryz.func16 U (by kernel_rfl) U (Wc U) ?_
 refine QN ?_
 refine c_lena (t:=1) (j:=0) U U (.seq _ _) (fun hmax=>?_)
 refine Ql ?_
 refine Qde ?_
 refine Qcr ?_
 refine QJ ?_
 refine Qs ?_
 refine Qbe ?_
 refine Qd ?_
 refine Zb 13 U U U (Zd (xs:=[.tmp 10,.tmp 12,.const (.slice none 0 0)]) U U (HS) by2 ?_)
 refine Qd2 ?_;intro b6
 refine QeB ?_
 refine Qa8 ?_
 refine Qd ?_
 refine QcK ?_;intro n16
 refine Qam ?_
 apply Yl (rg [(0,3),(4,2),(7,8),(17,20)]) (σ:=Nat) (fun zz=>match zz with|i=>[(17,.val (.int .i64 i))]) (fun zz=>match zz with|i=>[.loc b6 [.seq 17 (Cb.cellss bs),.seq 1 (strs []),.seq 5 (Da.cellss da),.seq 6 (Cl.cellss cl),.seq 8 (In.cellss ins),.seq 9 (Pm.cellss prims)]]) (fun zz=>match zz with|i=>i≤bs.length∧chkC q ((bs.take i).map Cb.s) (bs.drop i) i=r) (fun zz=>match zz with|i=>bs.length - i) (0)
 ·repeat' (first|exact Wf|apply Wd rfl|apply We rfl)
 ·exact ⟨Nat.zero_le _,hr⟩
 ·exact by5
 ·exact by4
 rintro i hI
 try dsimp only [List.cons_append,List.nil_append] at hI ⊢
 obtain ⟨hi,hD⟩:=hI
 refine Qan ?_;intro c18 h18
 refine Qy ?_
 obtain ⟨rfl,g18⟩|⟨rfl,g18⟩:=Za h18
 ·refine Qa3 ?_
  refine Qac ?_
  rw [Wh by17,chkC] at hD
  subst hD
  exact Yn U U U (Xu _) (Xp _) ⟨U,U⟩
 refine Qk ?_
 obtain ⟨⟨zb,zvs,⟨zwk,zws,zwn,zwl⟩,⟨zk,zs,zn,⟨ztk,zts,ztn,ztl⟩,zus,zks,zal,zbs⟩⟩,hxz⟩:=Zj (l:=bs) (i:=i) by8
 have hcz:=Cb.cellss_get hxz
 have hmz:=Wg hxz
 have HFz:=HF i (Cb.mk zb zvs ⟨zwk,zws,zwn,zwl⟩ ⟨zk,zs,zn,⟨ztk,zts,ztn,ztl⟩,zus,zks,zal,zbs⟩)
 have HBz:=HB _ hmz
 rw [hany,← Cb.cellss_take] at HFz
 rw [Zz hxz,chkC] at hD
 have hts:=Yd hxz
 have hD:(if hasB ((bs.take i).map Cb.s) zb=true∨q (Cb.mk zb zvs ⟨zwk,zws,zwn,zwl⟩ ⟨zk,zs,zn,⟨ztk,zts,ztn,ztl⟩,zus,zks,zal,zbs⟩)=false then some i else chkC q ((bs.take i).map Cb.s++[zb]) (bs.drop (i+1)) (i+1))=r:=hD
 have HFz:BCall Tryz.prog 42 [.seq 17 ((Cb.cellss bs).take i),.clo (.func 41) [] [.cptr (Cb.mk zb zvs ⟨zwk,zws,zwn,zwl⟩ ⟨zk,zs,zn,⟨ztk,zts,ztn,ztl⟩,zus,zks,zal,zbs⟩).cells]] (hasB ((bs.take i).map Cb.s) zb=true):=HFz
 generalize q (Cb.mk zb zvs ⟨zwk,zws,zwn,zwl⟩ ⟨zk,zs,zn,⟨ztk,zts,ztn,ztl⟩,zus,zks,zal,zbs⟩)=w at *
 generalize hpb:hasB ((bs.take i).map Cb.s) zb=u at *
 refine Qh ?_
 refine QfU ?_
 refine QdJ ?_
 refine QdN ?_;intro b8
 refine QJ ?_
 refine Qdk ?_
 refine Qy ?_
 refine c_frzp (i:=0) 8 U U ?_
 refine Qi ?_
 refine Zb 22 U U U (op_makeFunc (fs:=[]) (cs:=[.tmp 8]) U U U ?_)
 refine QG ?_
 refine Zw 34 (u=true∨w=false) ?_ _ _ U ?_
 ·skip
  refine QT ?_
  refine Zb 26 U U U (op_cuth (k:=i) U te_27 U (.seq _ _) U by17 by17 ?_)
  refine Qb ?_
  refine Zb 28 U U U (Zg (xs:=[.tmp 26,.tmp 27]) U U (HFz) by2 ?_);intro c28 h28
  refine Qb ?_
  obtain ⟨rfl,g28⟩|⟨rfl,g28⟩:=Za h28
  ·skip
   refine QgR ?_
   refine QfS ?_
   refine Zo 32 U U U U U (Zg (xs:=[.tmp 30,.tmp 31]) U U (HBz) by2 ?_);intro c32 h32
   refine Qal ?_;intro c33 h33
   try replace h33:=Ym h33 h32
   refine Qm ?_
   refine Wa U ?_ by6 by4
   clear HS HF HB HFz HBz;first|(simp_all;done)|grind
  skip
  refine QaX ?_
  refine Wa U ?_ by6 by4
  clear HS HF HB HFz HBz;first|(simp_all;done)|grind
 intro c34 h34
 refine Qc ?_
 obtain ⟨rfl,g34⟩|⟨rfl,g34⟩:=Za h34
 ·refine Qbu ?_
  rw [if_neg g34] at hD
  exact ⟨i+1,⟨by show i+1≤bs.length;omega,by rw [hts,List.map_append];exact hD⟩,by show bs.length - (i+1)<bs.length - i;omega,by5,by4⟩
 refine QaW ?_
 refine Qac ?_
 rw [if_pos g34] at hD
 subst hD
 exact Yn U U U (Xu _) (Xp _) ⟨U,U⟩
theorem all_drop {α:Type} {f:α→Bool} {l:List α} {i:Nat} {x:α} (h:l[i]?=some x):(l.drop i).all f=(f x && (l.drop (i+1)).all f):=by
 rw [drop_get h,List.all_cons]
theorem coCount_c (d:Nat):∀ (e:Co) (m:Int),e.size≤d→e.Lim→1≤m→m≤2000→PCall Tryz.prog 14 [.agg e.cells,.val (.int .i64 m)] (.val (.int .i64 (e.cnt m))):=by
 induction d with
 | zero=>intro e m hd;cases e;rw [Co.size] at hd;omega
 | succ d ih =>
  rintro ⟨k,s,n,⟨tk,ts,tn,tl⟩,us,ks,al,bs⟩ m hd hlim h1 h2
  obtain ⟨Z,hZ⟩:∃ Z,(Co.mk k s n ⟨tk,ts,tn,tl⟩ us ks al bs).cnt m=Z:=⟨_,rfl⟩
  rw [hZ]
  rw [Co.cnt] at hZ
  rw [Co.size] at hd
  rw [Co.Lim] at hlim
  obtain ⟨lu,lk,la,lb⟩:=hlim
  have HS:=fun t:Ty=>Small_c t 60 by16 by16
  have HSt:=HS ⟨tk,ts,tn,tl⟩
  have hlu:=Ty.cellss_len us
  have hlk:=Co.cellss_len ks
  have hla:=Ca.cellss_len al
  have hlb:=Cb.cellss_len bs
  refine Zc Tryz.func14 U (by kernel_rfl) U (Wc U) ?_
  refine QN ?_
  refine c_lena (t:=0) (j:=8) U U (.seq _ _) (fun hmax=>?_)
  refine c_lena (t:=0) (j:=9) U U (.seq _ _) (fun hmax2=>?_)
  refine c_lena (t:=0) (j:=10) U U (.seq _ _) (fun hmax3=>?_)
  refine Ql ?_
  refine Qdh ?_
  refine Qs ?_
  refine Qd ?_
  refine QY ?_;intro n13
  refine Qa6 ?_
  refine Qbi ?_
  refine Qdb ?_
  refine Zb 17 U U U (Zg (xs:=[.tmp 16,.const (.int .i64 60)]) U U (HSt) by2 ?_);intro c17 h17
  refine Q5 ?_;intro c18 h18
  try replace h18:=Ym h18 h17
  refine Qa ?_
  obtain ⟨rfl,g18⟩|⟨rfl,g18⟩:=Za h18
  ·refine QbK ?_
   rw [if_neg (by simpa using g18)] at hZ
   refine Qi ?_
   refine Qd ?_
   refine QY ?_;intro n22
   refine Qam ?_
   apply Yl (rg [(0,1),(3,2),(6,2),(11,10),(23,9)]) (σ:=Nat) (fun zz=>match zz with|i=>[(23,.val (.int .i64 i))]) (fun zz=>match zz with|i=>[]) (fun zz=>match zz with|i=>i≤us.length∧(us.all fun t=>t.small 60)=(us.drop i).all fun t=>t.small 60) (fun zz=>match zz with|i=>us.length - i) (0)
   ·repeat' (first|exact Wf|apply Wd rfl|apply We rfl)
   ·exact ⟨Nat.zero_le _,by rw [List.drop_zero]⟩
   ·exact by5
   ·exact (Xp _)
   rintro i hI
   try dsimp only [List.cons_append,List.nil_append] at hI ⊢
   obtain ⟨hi,hm⟩:=hI
   refine Qan ?_;intro c24 h24
   refine Qy ?_
   obtain ⟨rfl,g24⟩|⟨rfl,g24⟩:=Za h24
   ·refine Qbs ?_
    rw [Wh by17,List.all_nil] at hm
    rw [if_neg (by rw [hm];simp)] at hZ
    refine QaN ?_
    apply Zu (rg [(0,1),(3,1),(5,4),(11,44)]) (σ:=Nat × Int) (fun zz=>match zz with|(i,c)=>[(5,.val (.int .i64 c)),(8,.val (.int .i64 i))]) (fun zz=>match zz with|(i,c)=>i≤ks.length∧1≤c∧c≤562949953421312 * m∧Cb.cnts bs m (Ca.cnts al m (Co.cnts (ks.drop i) m c))=Z) (fun zz=>match zz with|(i,c)=>ks.length - i) ((0,1+us.length))
    ·repeat' (first|exact Wf|apply Wd rfl|apply We rfl)
    ·exact ⟨Nat.zero_le _,by show (1:Int)≤1+us.length;omega,by show (1:Int)+us.length≤_;omega,hZ⟩
    ·exact Xy U (Le.ieq by17) by5
    rintro ⟨i,c⟩ hI
    try dsimp only [List.cons_append,List.nil_append] at hI ⊢
    obtain ⟨hi,hc1,hc2,hm⟩:=hI
    refine QaJ ?_
    refine Zw 41 (i<ks.length∧c<m) ?_ _ _ U ?_
    ·skip
     refine Qb ?_
     refine Qd ?_
     refine Qb9 ?_;intro n35
     refine Qg ?_;intro c36 h36
     refine Qb ?_
     obtain ⟨rfl,g36⟩|⟨rfl,g36⟩:=Za h36
     ·skip
      refine Qc5 ?_
      refine Wa U ?_ by6 by4
      simp_all;omega
     skip
     refine QaM ?_
     refine Qbn ?_;intro c40 h40
     refine Qm ?_
     refine Wa U ?_ by6 by4
     simp_all;done
    intro c41 h41
    refine Qc ?_
    obtain ⟨rfl,g41⟩|⟨rfl,g41⟩:=Za h41
    ·refine Qbs ?_
     rw [Co.cnts_end by17] at hm
     refine QaN ?_
     apply Zu (rg [(0,1),(3,1),(5,5),(11,78)]) (σ:=Nat × Int) (fun zz=>match zz with|(i,c)=>[(5,.val (.int .i64 c)),(9,.val (.int .i64 i))]) (fun zz=>match zz with|(i,c)=>i≤al.length∧1≤c∧c≤562949953421312 * m∧Cb.cnts bs m (Ca.cnts (al.drop i) m c)=Z) (fun zz=>match zz with|(i,c)=>al.length - i) ((0,c))
     ·repeat' (first|exact Wf|apply Wd rfl|apply We rfl)
     ·exact ⟨Nat.zero_le _,hc1,hc2,hm⟩
     ·exact by5
     rintro ⟨i,c⟩ hI
     try dsimp only [List.cons_append,List.nil_append] at hI ⊢
     obtain ⟨hi,hc1,hc2,hm⟩:=hI
     refine QaJ ?_
     refine Zw 64 (i<al.length∧c<m) ?_ _ _ U ?_
     ·skip
      refine Qb ?_
      refine Qd ?_
      refine Qfl ?_;intro n58
      refine Qg ?_;intro c59 h59
      refine Qb ?_
      obtain ⟨rfl,g59⟩|⟨rfl,g59⟩:=Za h59
      ·skip
       refine Qc5 ?_
       refine Wa U ?_ by6 by4
       simp_all;omega
      skip
      refine QaM ?_
      refine Qbn ?_;intro c63 h63
      refine Qm ?_
      refine Wa U ?_ by6 by4
      simp_all;done
     intro c64 h64
     refine Qc ?_
     obtain ⟨rfl,g64⟩|⟨rfl,g64⟩:=Za h64
     ·refine Qbs ?_
      rw [Ca.cnts_end by17] at hm
      refine QaN ?_
      apply Zu (rg [(0,1),(3,128)]) (σ:=Nat × Int) (fun zz=>match zz with|(i,c)=>[(5,.val (.int .i64 c)),(10,.val (.int .i64 i))]) (fun zz=>match zz with|(i,c)=>i≤bs.length∧1≤c∧c≤562949953421312 * m∧Cb.cnts (bs.drop i) m c=Z) (fun zz=>match zz with|(i,c)=>bs.length - i) ((0,c))
      ·repeat' (first|exact Wf|apply Wd rfl|apply We rfl)
      ·exact ⟨Nat.zero_le _,hc1,hc2,hm⟩
      ·exact by5
      rintro ⟨i,c⟩ hI
      try dsimp only [List.cons_append,List.nil_append] at hI ⊢
      obtain ⟨hi,hc1,hc2,hm⟩:=hI
      refine QaJ ?_
      refine Zw 98 (i<bs.length∧c<m) ?_ _ _ U ?_
      ·skip
       refine Qb ?_
       refine Qd ?_
       refine QcK ?_;intro n92
       refine Qg ?_;intro c93 h93
       refine Qb ?_
       obtain ⟨rfl,g93⟩|⟨rfl,g93⟩:=Za h93
       ·skip
        refine Qc5 ?_
        refine Wa U ?_ by6 by4
        simp_all;omega
       skip
       refine QaM ?_
       refine Qbn ?_;intro c97 h97
       refine Qm ?_
       refine Wa U ?_ by6 by4
       simp_all;done
      intro c98 h98
      refine Qc ?_
      obtain ⟨rfl,g98⟩|⟨rfl,g98⟩:=Za h98
      ·refine Qa4 ?_
       rw [Cb.cnts_end by17] at hm
       subst hm
       exact Ze U U (Xu _) (Xp _) ⟨U,U⟩
      refine Qk ?_
      refine Q2 ?_
      obtain ⟨⟨qb,qvs,⟨qwk,qws,qwn,qwl⟩,⟨qk,qs,qn,⟨qtk,qts,qtn,qtl⟩,qus,qks,qal,qbs⟩⟩,hxq⟩:=Zj (l:=bs) (i:=i) by8
      have hcq:=Cb.cellss_get hxq
      have hmq:=Wg hxq
      rw [Zz hxq,Cb.cnts,if_pos g98.2,Cb.cnt] at hm
      have hlq:=(Cb.lims_iff _).1 lb _ hmq
      rw [Cb.Lim] at hlq
      obtain ⟨hlq,hqk⟩:=hlq
      have hqc:=Ya qvs
      have hsz:=Cb.size_mem hmq
      rw [Cb.size] at hsz
      have IH:=ih (Co.mk qk qs qn ⟨qtk,qts,qtn,qtl⟩ qus qks qal qbs) (m - c) by17 hlq by17 by17
      obtain ⟨z1,z2,_⟩:=Co.cnt_b (Co.mk qk qs qn ⟨qtk,qts,qtn,qtl⟩ qus qks qal qbs) (m - c) hlq by17 by17
      generalize (Co.mk qk qs qn ⟨qtk,qts,qtn,qtl⟩ qus qks qal qbs).cnt (m - c)=z at *
      have HSq:=HS ⟨qwk,qws,qwn,qwl⟩
      have hm:(if Ty.small ⟨qwk,qws,qwn,qwl⟩ 60=false then m else Cb.cnts (bs.drop (i+1)) m (c+(1+z+qvs.length)))=Z:=hm
      refine Qa5 ?_
      refine Qey ?_
      refine Qdb ?_
      refine Zb 107 U U U (Zg (xs:=[.tmp 106,.const (.int .i64 60)]) U U (HSq) by2 ?_);intro c107 h107
      refine Q5 ?_;intro c108 h108
      try replace h108:=Ym h108 h107
      refine Qa ?_
      obtain ⟨rfl,g108⟩|⟨rfl,g108⟩:=Za h108
      ·refine QbW ?_
       rw [if_neg (by simpa using g108)] at hm
       refine Q6 ?_
       refine QF ?_
       refine QaF ?_
       refine QgW ?_
       refine QbP ?_
       refine QgX ?_
       refine QbZ ?_
       refine QgY ?_
       refine Zq 120 U U (Zd (xs:=[.tmp 116,.tmp 119]) U U (IH) by2 ⟨U,U⟩) ?_
       refine Qeh ?_
       refine QaF ?_
       refine QgW ?_
       refine Q3 ?_
       refine QfL ?_
       refine Qeh ?_
       refine Qeh ?_
       refine Qcn ?_
       show AGo _ _ _ _ _ _ _
       refine QcS ?_
       exact ⟨(i+1,c+(1+z+qvs.length)),⟨by show i+1≤bs.length;omega,by show 1≤c+(1+z+qvs.length);omega,by show c+(1+z+qvs.length)≤562949953421312 * m;omega,hm⟩,by show bs.length - (i+1)<bs.length - i;omega,Xy U (Le.ieq by17) by5,by4⟩
      refine QaY ?_
      rw [if_pos (by simpa using g108)] at hm
      subst hm
      exact Ze U U (Xu _) (Xp _) ⟨U,U⟩
     refine QaV ?_
     obtain ⟨⟨⟨qqk,qqs,qqn,qql,qqp⟩,⟨qk,qs,qn,⟨qtk,qts,qtn,qtl⟩,qus,qks,qal,qbs⟩⟩,hxq⟩:=Zj (l:=al) (i:=i) by8
     have hcq:=Ca.cellss_get hxq
     have hmq:=Wg hxq
     rw [Zz hxq,Ca.cnts,if_pos g64.2,Ca.cnt] at hm
     have hlq:=(Ca.lims_iff _).1 la _ hmq
     rw [Ca.Lim] at hlq
     obtain ⟨hlq,hqk⟩:=hlq
     have hqk:qql.length≤140737488355328:=hqk
     have hqc:=Pa.cellss_len qql
     have hsz:=Ca.size_mem hmq
     rw [Ca.size] at hsz
     have IH:=ih (Co.mk qk qs qn ⟨qtk,qts,qtn,qtl⟩ qus qks qal qbs) (m - c) by17 hlq by17 by17
     obtain ⟨z1,z2,_⟩:=Co.cnt_b (Co.mk qk qs qn ⟨qtk,qts,qtn,qtl⟩ qus qks qal qbs) (m - c) hlq by17 by17
     generalize (Co.mk qk qs qn ⟨qtk,qts,qtn,qtl⟩ qus qks qal qbs).cnt (m - c)=z at *
     have hm:Cb.cnts bs m (Ca.cnts (al.drop (i+1)) m (c+(1+z+qql.length)))=Z:=hm
     refine Q6 ?_
     refine QF ?_
     refine QaF ?_
     refine QgZ ?_
     refine QbP ?_
     refine QgX ?_
     refine QbZ ?_
     refine QgY ?_
     refine Zq 77 U U (Zd (xs:=[.tmp 73,.tmp 76]) U U (IH) by2 ⟨U,U⟩) ?_
     refine Qeh ?_
     refine QaF ?_
     refine QgZ ?_
     refine QbP ?_
     refine Q3 ?_
     refine Zq 86 U U (Yw U tu_65 U (.seq _ _) (fun _=>⟨U,U⟩)) ?_
     refine Qeh ?_
     refine Qeh ?_
     refine Qcn ?_
     show AGo _ _ _ _ _ _ _
     refine QcS ?_
     exact ⟨(i+1,c+(1+z+qql.length)),⟨by show i+1≤al.length;omega,by show 1≤c+(1+z+qql.length);omega,by show c+(1+z+qql.length)≤562949953421312 * m;omega,hm⟩,by show al.length - (i+1)<al.length - i;omega,Xy U (Le.ieq by17) by5,by4⟩
    refine QaV ?_
    obtain ⟨⟨qk,qs,qn,⟨qtk,qts,qtn,qtl⟩,qus,qks,qal,qbs⟩,hxq⟩:=Zj (l:=ks) (i:=i) by8
    have hcq:=Co.cellss_get hxq
    have hmq:=Wg hxq
    rw [Zz hxq,Co.cnts,if_pos g41.2] at hm
    have hlq:=(Co.lims_iff _).1 lk _ hmq
    have hsz:=Co.size_mem hmq
    have IH:=ih (Co.mk qk qs qn ⟨qtk,qts,qtn,qtl⟩ qus qks qal qbs) (m - c) by17 hlq by17 by17
    obtain ⟨z1,z2,_⟩:=Co.cnt_b (Co.mk qk qs qn ⟨qtk,qts,qtn,qtl⟩ qus qks qal qbs) (m - c) hlq by17 by17
    generalize (Co.mk qk qs qn ⟨qtk,qts,qtn,qtl⟩ qus qks qal qbs).cnt (m - c)=z at *
    refine Qh ?_
    refine QT ?_
    refine Zb 48 U U U (Zh U te_25 U (.seq _ _) U U (hcq) ?_)
    refine QbU ?_
    refine Qai ?_
    refine Qay ?_
    refine Zb 53 U U U (Zd (xs:=[.tmp 49,.tmp 52]) U U (IH) by2 ?_)
    refine Qa6 ?_
    refine QaD ?_
    exact ⟨(i+1,c+z),⟨by show i+1≤ks.length;omega,by show 1≤c+z;omega,by show c+z≤562949953421312 * m;omega,hm⟩,by show ks.length - (i+1)<ks.length - i;omega,by5,by4⟩
   refine Qk ?_
   obtain ⟨⟨qk,qs,qn,ql⟩,hxq⟩:=Zj (l:=us) (i:=i) by8
   have hcq:=Ty.cellss_get hxq
   have hmq:=Wg hxq
   rw [all_drop hxq] at hm
   have HSq:=HS ⟨qk,qs,qn,ql⟩
   refine Qi ?_
   refine Zb 25 U U U (Zh U te_22 U (.seq _ _) U U (hcq) ?_)
   refine Q7 ?_
   refine QE ?_;intro b7
   refine QO ?_
   refine Qu ?_
   refine Q9 ?_
   refine Zb 28 U U U (Zg (xs:=[.tmp 27,.const (.int .i64 60)]) U U (HSq) by2 ?_);intro c28 h28
   refine Q5 ?_;intro c29 h29
   try replace h29:=Ym h29 h28
   refine Qa ?_
   obtain ⟨rfl,g29⟩|⟨rfl,g29⟩:=Za h29
   ·refine Qbu ?_
    exact ⟨i+1,⟨by show i+1≤us.length;omega,by rw [hm,show Ty.small ⟨qk,qs,qn,ql⟩ 60=true by simpa using g29,Bool.true_and]⟩,by show us.length - (i+1)<us.length - i;omega,by5,by4⟩
   refine QaY ?_
   rw [if_pos (by rw [hm,show Ty.small ⟨qk,qs,qn,ql⟩ 60=false by simpa using g29];rfl)] at hZ
   subst hZ
   exact Ze U U (Xu _) (Xp _) ⟨U,U⟩
  refine QaY ?_
  rw [if_pos (by simpa using g18)] at hZ
  subst hZ
  exact Ze U U (Xu _) (Xp _) ⟨U,U⟩
def Co.small (e:Co) (most:Int):Prop:=e.cnt (most+1)≤most
theorem coSmall_c (e:Co) (hl:e.Lim) (most:Int) (h1:0≤most) (h2:most≤1900):BCall Tryz.prog 8 [.agg e.cells,.val (.int .i64 most)] (e.small most):=by
 unfold Co.small
 have H:=coCount_c e.size e (most+1) (Nat.le_refl _) hl by17 by17
 generalize e.cnt (most+1)=c at *
 obtain ⟨k,s,n,⟨tk,ts,tn,tl⟩,us,ks,al,bs⟩:=e
 refine Zc Tryz.func8 U (by kernel_rfl) U (Wc U) ?_
 refine Qe ?_
 refine Qdh ?_
 refine Qs ?_
 refine QbU ?_
 refine Qb ?_
 refine Qa6 ?_
 refine Zb 8 U U U (Zd (xs:=[.tmp 5,.tmp 7]) U U (H) by2 ?_)
 refine Qb ?_
 refine Zb 10 U U U (op_leq U U U ?_);intro c10 h10
 refine Qo ?_
 exact Ze U U (Xu _) (Xp _) ⟨⟨_,h10,U⟩,U⟩
theorem Co.size_full:∀ e:Co,e.size≤e.full:=by
 have key:∀ (d:Nat) (e:Co),e.size≤d→e.size≤e.full:=by
  intro d
  induction d with
  | zero=>intro e h;cases e;rw [Co.size] at h;omega
  | succ d ih =>
   rintro ⟨k,s,n,t,us,ks,al,bs⟩ h
   rw [Co.size] at h
   have a1:∀ l:List Co,Co.sizes l≤d→Co.sizes l≤Co.fulls l:=by
    intro l
    induction l with
    | nil=>intro _;rw [Co.sizes];omega
    | cons x l il=>intro hh;rw [Co.sizes] at hh ⊢;rw [Co.fulls];have:=ih x by17;have:=il by17;omega
   have a2:∀ l:List Ca,Ca.sizes l≤d→Ca.sizes l≤Ca.fulls l:=by
    intro l
    induction l with
    | nil=>intro _;rw [Ca.sizes];omega
    | cons x l il=>intro hh;cases x with|mk q e=>rw [Ca.sizes,Ca.size] at hh ⊢;rw [Ca.fulls,Ca.full];have:=ih e by17;have:=il by17;omega
   have a3:∀ l:List Cb,Cb.sizes l≤d→Cb.sizes l≤Cb.fulls l:=by
    intro l
    induction l with
    | nil=>intro _;rw [Cb.sizes];omega
    | cons x l il=>intro hh;cases x with|mk q v t e=>rw [Cb.sizes,Cb.size] at hh ⊢;rw [Cb.fulls,Cb.full];have:=ih e by17;have:=il by17;omega
   rw [Co.size,Co.full]
   have:=a1 ks by17
   have:=a2 al by17
   have:=a3 bs by17
   omega
 exact fun e=>key e.size e (Nat.le_refl _)
theorem Co.small_size {e:Co} {most:Int} (hl:e.Lim) (h1:0≤most) (h2:most≤1900) (h:e.small most):(e.size:Int)≤most∧e.Ok:=by
 unfold Co.small at h
 obtain ⟨_,_,h3⟩:=Co.cnt_b e (most+1) hl by17 by17
 obtain ⟨h4,h5⟩:=h3 by17
 have:=e.size_full
 exact ⟨by omega,h5⟩
theorem rcon_c (s:ByteArray) (ks:List Ty):PCall Tryz.prog 128 [.val (.string s),.seq 4 (Ty.cellss ks)] (.agg (Ty.mk 3 s 0 ks).cells):=by
 refine Zc Tryz.func128 U (by kernel_rfl) U (Wc U) ?_
 refine Qe ?_
 refine QE ?_;intro b4
 refine QB ?_
 refine Qb ?_
 refine Zb 7 U U U (Zm (ns:=[0,1,3]) (xs:=[.const (.int .i64 3),.tmp 5,.tmp 6]) U tz_24 U tfl_24 U U U U ?_)
 refine Qc4 ?_
 exact Zk (i:=0) U U U Zx U by3 (Xp _) ⟨U,U⟩
def kidsC (k:Int):Int:=if k=5 then 2 else if k=6∨k=7∨k=8∨k=11 then 1 else -1
theorem rkids_c (k:Int):PCall Tryz.prog 127 [.val (.int .i64 k)] (.val (.int .i64 (kidsC k))):=by
 obtain ⟨r,hr⟩:∃ r,kidsC k=r:=⟨_,rfl⟩
 rw [hr]
 unfold kidsC at hr
 refine Zc Tryz.func127 U (by kernel_rfl) U (Wc U) ?_
 refine Qe ?_
 refine QU ?_
 refine Qdl ?_
 refine Ql ?_
 refine Qz ?_;intro c5 h5
 refine Qj ?_
 obtain ⟨rfl,g5⟩|⟨rfl,g5⟩:=Za h5
 ·refine QX ?_
  refine Q2 ?_
  refine Ql ?_
  refine Qz ?_;intro c7 h7
  refine Qj ?_
  obtain ⟨rfl,g7⟩|⟨rfl,g7⟩:=Za h7
  ·refine Qaj ?_;intro c8 h8
   refine Qj ?_
   obtain ⟨rfl,g8⟩|⟨rfl,g8⟩:=Za h8
   ·refine Qaj ?_;intro c9 h9
    refine Qj ?_
    obtain ⟨rfl,g9⟩|⟨rfl,g9⟩:=Za h9
    ·refine QX ?_
     refine Qi ?_
     refine Qz ?_;intro c10 h10
     refine Qj ?_
     obtain ⟨rfl,g10⟩|⟨rfl,g10⟩:=Za h10
     ·refine Qbr ?_
      refine Ql ?_
      refine Qo ?_
      rw [if_neg by17,if_neg by17] at hr
      subst hr
      exact Ze U U (Xu _) by4 ⟨U,U⟩
     refine QD ?_
     rw [if_neg by17,if_pos by17] at hr
     subst hr
     exact Ze U U (Xu _) by4 ⟨U,U⟩
    refine Q4 ?_
    refine Qbm ?_
    refine Qc ?_
    refine QD ?_
    rw [if_neg by17,if_pos by17] at hr
    subst hr
    exact Ze U U (Xu _) by4 ⟨U,U⟩
   refine Q4 ?_
   refine Qbm ?_
   refine Qc ?_
   refine QD ?_
   rw [if_neg by17,if_pos by17] at hr
   subst hr
   exact Ze U U (Xu _) by4 ⟨U,U⟩
  refine Q4 ?_
  refine Qbm ?_
  refine Qc ?_
  refine QD ?_
  rw [if_neg by17,if_pos by17] at hr
  subst hr
  exact Ze U U (Xu _) by4 ⟨U,U⟩
 refine QD ?_
 rw [if_pos by17] at hr
 subst hr
 exact Ze U U (Xu _) by4 ⟨U,U⟩
def conU:Option (Nat × Nat)→AV
 | none=>.tup [.val (.int .i64 (-1)),.val (.int .i64 (-1))]
 | some (i,k)=>.tup [.val (.int .i64 i),.val (.int .i64 k)]
theorem rCon_c (v:En) (s:ByteArray):PCall Tryz.prog 129 [.agg v.cells,.val (.string s)] (conU (conJ s v.da 0)):=by
 obtain ⟨r,hr⟩:∃ r,conJ s v.da 0=r:=⟨_,rfl⟩
 rw [hr]
 obtain ⟨da,cl,ins⟩:=v
 have hld:=Da.cellss_len da
 simp only [En.cells,En.da] at *
 refine Zc Tryz.func129 U (by kernel_rfl) U (Wc U) ?_
 refine QN ?_
 refine c_lena (t:=0) (j:=0) U U (.seq _ _) (fun hmax=>?_)
 refine Ql ?_
 refine Qde ?_
 refine QJ ?_
 refine Qae ?_
 apply Zu (rg [(0,1),(3,37)]) (σ:=Nat) (fun zz=>match zz with|i=>[(6,.val (.int .i64 i))]) (fun zz=>match zz with|i=>i≤da.length∧conJ s (da.drop i) i=r) (fun zz=>match zz with|i=>da.length - i) (0)
 ·repeat' (first|exact Wf|apply Wd rfl|apply We rfl)
 ·exact ⟨Nat.zero_le _,hr⟩
 ·exact by5
 rintro i hI
 try dsimp only [List.cons_append,List.nil_append] at hI ⊢
 obtain ⟨hi,hf⟩:=hI
 refine Qav ?_
 refine Qeb ?_;intro n11
 refine Qg ?_;intro c12 h12
 refine Qa ?_
 obtain ⟨rfl,g12⟩|⟨rfl,g12⟩:=Za h12
 ·refine Qa3 ?_
  refine Qac ?_
  rw [Wh by17,conJ] at hf
  subst hf
  exact Yn U U U (Xu _) (Xp _) ⟨U,U⟩
 refine QaV ?_
 refine Ql ?_
 refine Qab ?_
 obtain ⟨⟨qs,qps,qcs,qdv,qp⟩,hxq⟩:=Zj (l:=da) (i:=i) by17
 have hcq:=Da.cellss_get hxq
 have hlq:=Cn.cellss_len qcs
 rw [Zz hxq,conJ] at hf
 replace hf:(if findI (fun (c:Cn)=>sameB c.s s) qcs 0<0 then conJ s (da.drop (i+1)) (i+1) else some (i,(findI (fun (c:Cn)=>sameB c.s s) qcs 0).toNat))=r:=hf
 obtain ⟨fi,hfi⟩:∃ fi,findI (fun (c:Cn)=>sameB c.s s) qcs 0=fi:=⟨_,rfl⟩
 rw [hfi] at hf
 apply Zu (rg [(0,1),(3,3),(7,1),(15,25)]) (σ:=Nat) (fun zz=>match zz with|k=>[(7,.val (.int .i64 k))]) (fun zz=>match zz with|k=>k≤qcs.length∧findI (fun (c:Cn)=>sameB c.s s) (qcs.drop k) k=fi) (fun zz=>match zz with|k=>qcs.length - k) (0)
 ·repeat' (first|exact Wf|apply Wd rfl|apply We rfl)
 ·exact ⟨Nat.zero_le _,hfi⟩
 ·exact by5
 rintro k hI
 try dsimp only [List.cons_append,List.nil_append] at hI ⊢
 obtain ⟨hk,hfk⟩:=hI
 refine QS ?_
 refine QT ?_
 refine QfH ?_
 refine Qd ?_
 refine Qft ?_;intro n22
 refine Qg ?_;intro c23 h23
 refine Qa ?_
 obtain ⟨rfl,g23⟩|⟨rfl,g23⟩:=Za h23
 ·refine Qdv ?_
  rw [Wh by17,findI] at hfk
  rw [if_pos by17] at hf
  exact ⟨i+1,⟨by show i+1≤da.length;omega,hf⟩,by show da.length - (i+1)<da.length - i;omega,by5,by4⟩
 refine Qk ?_
 obtain ⟨⟨zs,zts,zp⟩,hxz⟩:=Zj (l:=qcs) (i:=k) by17
 have hcz:=Cn.cellss_get hxz
 rw [Zz hxz,findI] at hfk
 replace hfk:(if sameB zs s=true then (k:Int) else findI (fun (c:Cn)=>sameB c.s s) (qcs.drop (k+1)) (k+1))=fi:=hfk
 refine Qa5 ?_
 refine Zb 29 U U U (Zh U te_37 U (.seq _ _) U U (by first|exact hcq|exact hcz) ?_)
 refine QT ?_
 refine Zb 33 U U U (Zh U te_112 U (.seq _ _) U U (by first|exact hcq|exact hcz) ?_)
 refine QT ?_
 refine Qas ?_;intro c37 h37
 refine Qa ?_
 obtain ⟨rfl,g37⟩|⟨rfl,g37⟩:=Za h37
 ·refine QL ?_
  rw [if_neg (fun q=>g37 (Yt.1 q))] at hfk
  exact ⟨k+1,⟨by show k+1≤qcs.length;omega,hfk⟩,by show qcs.length - (k+1)<qcs.length - k;omega,by5,by4⟩
 refine Qb0 ?_
 refine Qac ?_
 rw [if_pos (Yt.2 g37)] at hfk
 rw [if_neg by17] at hf
 subst hf
 exact Yn U U U (Le.tup (Xw (Xu _) (Xw (Le.ieq by17) (Xv _)))) (Xp _) ⟨U,U⟩
theorem isBr_get {s:ByteArray}:isBr s=true↔s[0]?=some 123:=by
 unfold isBr
 rw [Yt]
 constructor
 ·intro h
  have hz:=congrArg ByteArray.size h
  rw [ByteArray.size_extract] at hz
  have hk:kBr.size=1:=rfl
  have h0:0<s.size:=by omega
  have hx:0<(s.extract 0 1).size:=by rw [ByteArray.size_extract];omega
  rw [getElem?_pos s 0 h0]
  have h1:(s.extract 0 1)[0]=s[0+0]:=ByteArray.getElem_extract ..
  have h2:(s.extract 0 1)[0]?=kBr[0]?:=by rw [h]
  rw [getElem?_pos (s.extract 0 1) 0 hx,h1] at h2
  exact h2
 intro h
 have h0:0<s.size:=by
  rcases Nat.lt_or_ge 0 s.size with q|q
  ·exact q
  rw [getElem?_neg s 0 by17] at h;cases h
 have hv:s[0]=123:=by
  rw [getElem?_pos s 0 h0] at h
  exact Option.some.inj h
 have hk:kBr.size=1:=rfl
 refine ByteArray.ext_getElem (by rw [ByteArray.size_extract];omega) (fun i h1 h2=>?_)
 have:i=0:=by omega
 subst this
 have h3:(s.extract 0 1)[0]=s[0+0]:=ByteArray.getElem_extract ..
 rw [h3]
 exact hv
theorem isBr_at {s:ByteArray}:∃ b:UInt8,(0<s.size→s[0]?=some b)∧(isBr s=true↔0<s.size∧(b.toNat:Int)=123):=by
 by_cases h0:0<s.size
 ·refine ⟨s[0],fun _=>getElem?_pos s 0 h0,?_⟩
  rw [isBr_get,getElem?_pos s 0 h0]
  constructor
  ·intro h
   rw [Option.some.inj h]
   exact ⟨h0,U⟩
  rintro ⟨_,h⟩
  congr 1
  exact UInt8.toNat_inj.1 (by show s[0].toNat=123;omega)
 refine ⟨0,fun h=>absurd h h0,⟨fun h=>?_,fun h=>absurd h.1 h0⟩⟩
 have:=isBr_size h
 omega
theorem rRight_c (v:En) (hbr:∀ s,isBr s=true→arityR v s<0) (vs:List ByteArray) (t:Ty):BCall Tryz.prog 19 [.agg v.cells,.seq 1 (strs vs),.agg t.cells] (rightC v vs t=true):=by
 obtain ⟨k,s,n,ks⟩:=t
 have IH:∀ x∈ks,BCall Tryz.prog 19 [.agg v.cells,.seq 1 (strs vs),.agg x.cells] (rightC v vs x=true):=fun x hx=>rRight_c v hbr vs x
 have HH:=Has_c vs s
 have HN:=Arity_c v s
 have HC:=Class_c v (s.extract 1 s.size)
 have hr:=rightC_iff (v:=v) (vs:=vs) (k:=k) (s:=s) (n:=n) (ks:=ks)
 rw [arC_split] at hr
 have hbs:=hbr s
 unfold clsC tailB at hr
 have hsz := @isBr_size s
 obtain ⟨b0,hb0,hbx⟩ := @isBr_at s
 generalize (rightC v vs (.mk k s n ks)=true)=R at *
 generalize arityR v s=ar at *
 generalize classI v (s.extract 1 s.size)=ci at *
 generalize isBr s=br at *
 obtain ⟨X,hX0⟩:∃ X:Int,(if 0≤ar then ar else if 0≤(if br=true then ci else -1) then 1 else -1)=X:=⟨_,rfl⟩
 rw [hX0] at hr
 have hX:((if br=true∧0≤ci then (1:Int) else ar)=ks.length)↔(X=ks.length):=by
  rw [← hX0]
  cases br with
  | true =>
   have hz:=hbs rfl
   rw [if_neg (show ¬ 0≤ar by omega)]
   by_cases q2:0≤ci
   ·rw [if_pos ⟨rfl,q2⟩,if_pos (by rw [if_pos rfl];exact q2)]
   rw [if_neg (fun q=>q2 q.2),if_neg (by rw [if_pos rfl];exact q2)];omega
  | false =>
   rw [if_neg (fun q=>nomatch q.1)]
   by_cases q3:0≤ar
   ·rw [if_pos q3]
   rw [if_neg q3,if_neg (by rw [if_neg by16];decide)];omega
 clear hX0 hbs
 have hlk:=Ty.cellss_len ks
 obtain ⟨da,cl,ins⟩:=v
 simp only [En.cells] at *
 refine Zc Tryz.func19 U (by kernel_rfl) U (Wc U) ?_
 refine Qar ?_
 refine Qdf ?_
 refine Q1 ?_
 refine Zw 28 (¬ ((k=1∧s∈vs)∨k=3)) ?_ _ _ U ?_
 ·skip
  refine QaE ?_;intro c11 h11
  refine Qb ?_
  obtain ⟨rfl,g11⟩|⟨rfl,g11⟩:=Za h11
  ·skip
   refine QaK ?_
   refine Qv ?_
   refine QA ?_
   refine Qax ?_;intro c22 h22
   refine Qf ?_
   obtain ⟨rfl,g22⟩|⟨rfl,g22⟩:=Za h22
   ·skip
    refine Qah ?_
    refine Qaz ?_
    refine Wa U ?_ by6 by4
    clear IH HH HN HC hr;first|(simp_all;done)|(simp_all;omega)|grind
   skip
   refine QA ?_
   refine Qax ?_;intro c26 h26
   refine Qaz ?_
   refine Wa U ?_ by6 by4
   clear IH HH HN HC hr;first|(simp_all;done)|(simp_all;omega)|grind
  skip
  refine Qf ?_
  refine QA ?_
  refine Zo 16 U U U U U (Zg (xs:=[.tmp 13,.tmp 15]) U U (HH) by2 ?_);intro c16 h16
  refine Qal ?_;intro c17 h17
  try replace h17:=Ym h17 h16
  refine Qv ?_
  obtain ⟨rfl,g17⟩|⟨rfl,g17⟩:=Za h17
  ·skip
   refine QA ?_
   refine Qax ?_;intro c22 h22
   refine Qf ?_
   obtain ⟨rfl,g22⟩|⟨rfl,g22⟩:=Za h22
   ·skip
    refine Qah ?_
    refine Qaz ?_
    refine Wa U ?_ by6 by4
    clear IH HH HN HC hr;first|(simp_all;done)|(simp_all;omega)|grind
   skip
   refine QA ?_
   refine Qax ?_;intro c26 h26
   refine Qaz ?_
   refine Wa U ?_ by6 by4
   clear IH HH HN HC hr;first|(simp_all;done)|(simp_all;omega)|grind
  skip
  refine Qx ?_
  refine QaS ?_
  refine QaS ?_
  refine QaS ?_
  refine QbO ?_
  refine Qm ?_
  refine Wa U ?_ by6 by4
  clear IH HH HN HC hr;first|(simp_all;done)|(simp_all;omega)|grind
 intro c28 h28
 refine Qc ?_
 obtain ⟨rfl,g28⟩|⟨rfl,g28⟩:=Za h28
 ·refine QaC ?_
  refine QaE ?_;intro c31 h31
  refine Qa ?_
  apply c_joinkm (rg [(0,1),(2,1),(4,1),(6,2),(9,50)]) (σ:=Unit) (fun zz=>match zz with|_x=>[]) (fun zz=>match zz with|_x=>k=3→X=ks.length)
  ·repeat' (first|exact Wf|apply Wd rfl|apply We rfl)
  ·skip
   obtain ⟨rfl,g31⟩|⟨rfl,g31⟩:=Za h31
   ·refine QbL ?_
    first
    | exact ⟨(),fun _=>hX.1 (by have:=Classical.not_not.1 g58;rw [hlk] at this;exact this),by5,by4⟩
    | exact ⟨(),fun q=>absurd q g31,by5,by4⟩
   refine Qq ?_
   refine Qbe ?_
   refine Qd ?_
   refine Zb 35 U U U (Zd (xs:=[.tmp 32,.tmp 34]) U U (HN) by2 ?_)
   refine Q1 ?_
   refine c_boold 53 (br=true∧0≤ci) Yx U ?_ _ _ U ?_
   ·skip
    refine Q3 ?_
    refine Zq 38 U U (op_len_str U tu_9 U ⟨U,U⟩) ?_
    refine Yj 39 U U (fun _ q=>op_gtr U U U q) ?_;intro c39 h39
    refine QF ?_
    obtain ⟨rfl,g39⟩|⟨rfl,g39⟩:=Za h39
    ·skip
     refine Qbh ?_
     refine Qa1 ?_
     refine Qbh ?_
     refine Qca ?_
     refine QH ?_
     show BoolQ _ _ _ _ _ _
     refine Wa U ?_ by6 by4
     clear IH HH HN HC hr;first|(simp_all;done)|(simp_all;omega)|grind
    skip
    refine Qap ?_
    refine Ye 43 U U U U (Yv U tu_9 U U U (hb0 by17) ⟨U,U⟩) ?_
    refine Yk 44 U U U U (fun _ q=>op_eql U U U q) ?_;intro c44 h44
    refine Qa1 ?_
    obtain ⟨rfl,g44⟩|⟨rfl,g44⟩:=Za h44
    ·skip
     refine Qbh ?_
     refine Qca ?_
     refine QH ?_
     show BoolQ _ _ _ _ _ _
     refine Wa U ?_ by6 by4
     clear IH HH HN HC hr;first|(simp_all;done)|(simp_all;omega)|grind
    skip
    refine QfC ?_
    refine Qap ?_
    refine Ye 50 rfl rfl rfl rfl (op_substrl (i:=1) rfl tu_9 rfl rfl by11 (by first|omega|assumption) ⟨rfl,rfl⟩) ?_
    refine Ye 51 U U U U (Zd (xs:=[.tmp 47,.tmp 50]) U U (HC) by2 ⟨U,U⟩) ?_
    refine Yk 52 U U U U (fun _ q=>op_geq U U U q) ?_;intro c52 h52
    refine QH ?_
    show BoolQ _ _ _ _ _ _
    refine Wa U ?_ by6 by4
    clear IH HH HN HC hr;first|(simp_all;done)|(simp_all;omega)|grind
   intro c53 h53
   refine Qc ?_
   apply c_joinkm (rg [(0,1),(2,1),(4,1),(7,1),(9,45)]) (σ:=Unit) (fun zz=>match zz with|_x=>[(7,.val (.int .i64 (if br=true∧0≤ci then 1 else ar)))]) (fun zz=>match zz with|_x=>True)
   ·repeat' (first|exact Wf|apply Wd rfl|apply We rfl)
   ·skip
    obtain ⟨rfl,g53⟩|⟨rfl,g53⟩:=Za h53
    ·refine QbL ?_
     first
     | exact ⟨(),trivial,Xy rfl (Le.ieq (by rw [if_pos g53])) by5,by4⟩
     | exact ⟨(),trivial,Xy rfl (Le.ieq (by rw [if_neg g53])) by5,by4⟩
    refine QbX ?_
    refine QbE ?_
    first
    | exact ⟨(),trivial,Xy rfl (Le.ieq (by rw [if_pos g53])) by5,by4⟩
    | exact ⟨(),trivial,Xy rfl (Le.ieq (by rw [if_neg g53])) by5,by4⟩
   rintro _x hI
   try dsimp only [List.cons_append,List.nil_append] at hI ⊢
   refine Qc ?_
   refine Q0 ?_
   refine Qd ?_
   refine QY ?_;intro n57
   refine QP ?_;intro c58 h58
   refine Qa ?_
   obtain ⟨rfl,g58⟩|⟨rfl,g58⟩:=Za h58
   ·refine QbL ?_
    first
    | exact ⟨(),fun _=>hX.1 (by have:=Classical.not_not.1 g58;rw [hlk] at this;exact this),by5,by4⟩
    | exact ⟨(),fun q=>absurd q g31,by5,by4⟩
   refine Qq ?_
   refine Qj ?_
   refine c_retj ?_
   exact Ze U U (Xu _) (Xp _) ⟨⟨_,iff_f (fun q=>g58 (by rw [hlk];exact hX.2 ((hr.1 q).1.elim (fun h=>by omega) (fun h=>h.2)))),U⟩,U⟩
  rintro _x hI
  try dsimp only [List.cons_append,List.nil_append] at hI ⊢
  have hk3:=hI
  refine Qbd ?_
  refine Ql ?_
  refine Qab ?_
  apply Zu (rg [(0,1),(2,1),(4,1),(6,69)]) (σ:=Nat) (fun zz=>match zz with|i=>[(8,.val (.int .i64 i))]) (fun zz=>match zz with|i=>i≤ks.length∧(ks.all (rightC (.mk da cl ins) vs))=(ks.drop i).all (rightC (.mk da cl ins) vs)) (fun zz=>match zz with|i=>ks.length - i) (0)
  ·repeat' (first|exact Wf|apply Wd rfl|apply We rfl)
  ·exact ⟨Nat.zero_le _,by rw [List.drop_zero]⟩
  ·exact by5
  rintro i hI
  try dsimp only [List.cons_append,List.nil_append] at hI ⊢
  obtain ⟨hi,hA⟩:=hI
  refine Qav ?_
  refine QY ?_;intro n62
  refine Qg ?_;intro c63 h63
  refine Qa ?_
  obtain ⟨rfl,g63⟩|⟨rfl,g63⟩:=Za h63
  ·refine Qad ?_
   rw [Wh by17,List.all_nil] at hA
   exact Ze U U (Xu _) (Xp _) ⟨⟨_,iff_t (hr.2 ⟨(Classical.not_not.1 g28).elim (fun h=>.inl h) (fun h=>.inr ⟨h,hk3 h⟩),hA⟩),U⟩,U⟩
  refine Qk ?_
  obtain ⟨⟨qk,qs,qn,ql⟩,hxq⟩:=Zj (l:=ks) (i:=i) by8
  have hcq:=Ty.cellss_get hxq
  have hmq:=Wg hxq
  rw [all_drop hxq] at hA
  have HQ:=IH _ hmq
  generalize rightC (.mk da cl ins) vs ⟨qk,qs,qn,ql⟩=w at *
  refine Q6 ?_
  refine Qct ?_
  refine QF ?_
  refine QaF ?_
  refine Qg0 ?_
  refine Qb5 ?_
  refine Yj 73 U U (fun _ q=>Zg (xs:=[.tmp 66,.tmp 67,.tmp 72]) U U (HQ) by2 q) ?_;intro c73 h73
  refine Yj 74 U U (fun _ q=>Yz U U q) ?_;intro c74 h74
  try replace h74:=Ym h74 h73
  show AGo _ _ _ _ _ _ _
  refine Qc ?_
  obtain ⟨rfl,g74⟩|⟨rfl,g74⟩:=Za h74
  ·refine QL ?_
   have hw:w=true:=by simpa using g74
   rw [hw,Bool.true_and] at hA
   exact ⟨i+1,⟨by show i+1≤ks.length;omega,hA⟩,by show ks.length - (i+1)<ks.length - i;omega,by5,by4⟩
  refine QD ?_
  have hw:w=false:=by simpa using g74
  rw [hw,Bool.false_and] at hA
  exact Ze U U (Xu _) (Xp _) ⟨⟨_,iff_f (fun q=>by have:=(hr.1 q).2;rw [hA] at this;simp at this),U⟩,U⟩
 refine QD ?_
 exact Ze U U (Xu _) (Xp _) ⟨⟨_,iff_f (fun q=>g28 ((hr.1 q).1.elim (fun h=>.inl h) (fun h=>.inr h.1))),U⟩,U⟩
termination_by SizeOf.sizeOf t
decreasing_by
 have:=List.sizeOf_lt_of_mem hx
 simp;omega
end Go.Proofs.YteepjjgooplljaaGreat
namespace Go.Proofs.YteepjjgooplljaaGreat
def NmB (s:ByteArray):Prop:=s.size≤40∧isBr s=false
theorem nmB_kE:NmB kE:=⟨by decide,by decide +kernel⟩
def TQ (t:Tok):Prop:=t.k=2→NmB t.t
theorem isBr_strN {c:Nat} {l:List Nat} (hc:greatC c=true):isBr (strN (c::l))=false:=by
 cases q:isBr (strN (c::l)) with
 | false=>rfl
 | true =>
  rw [isBr_get] at q
  have hb:65≤c∧c≤90:=by simpa [greatC] using hc
  have h1:(strN (c::l))[0]?=some (UInt8.ofNat c):=by
   have hz:0<(strN (c::l)).size:=by rw [strN_size];simp
   rw [getElem?_pos _ 0 hz]
   congr 1
  rw [h1] at q
  have h2:UInt8.ofNat c=123:=Option.some.inj q
  have h3:=congrArg UInt8.toNat h2
  rw [UInt8.toNat_ofNat'] at h3
  have h4:(123:UInt8).toNat=123:=rfl
  omega
theorem oneL_tq (i:Int) (c:Nat) (l:List Nat):TQ (oneL i (c::l)).1:=by
 intro hk
 simp only [oneL] at hk ⊢
 by_cases h1:c=34
 ·rw [if_pos h1] at hk
  split at hk <;> simp [tok0] at hk
 rw [if_neg h1] at hk ⊢
 by_cases h2:digitC c=true
 ·rw [if_pos h2] at hk
  split at hk <;> simp [tok0] at hk
 rw [if_neg h2] at hk ⊢
 generalize hkk:(if smallC c=true∨greatC c=true then run 1 (c::l) else if signC c=true then run 3 (c::l) else 1)=k at hk ⊢
 by_cases h3:¬ (smallC c=true∨greatC c=true∨signC c=true)∧markT (strN ((c::l).take k))=false
 ·rw [if_pos h3] at hk;simp [tok0] at hk
 rw [if_neg h3] at hk ⊢
 by_cases h4:40<k
 ·rw [if_pos h4] at hk;simp at hk
 rw [if_neg h4] at hk ⊢
 replace hk:kindT c (strN ((c::l).take k))=2:=hk
 have hg:greatC c=true:=by
  unfold kindT at hk
  split at hk
  ·simp at hk
  split at hk
  ·simp at hk
  split at hk
  ·simp at hk
  split at hk
  ·assumption
  simp at hk
 have hk1:1≤k:=by
  rw [← hkk,if_pos (.inr hg)]
  unfold run
  rw [if_pos (by simp [kindC,nameC,hg])]
  omega
 obtain ⟨k',rfl⟩:∃ j,k=j+1:=⟨k - 1,by omega⟩
 show NmB (strN ((c::l).take (k'+1)))
 rw [List.take_succ_cons]
 refine ⟨?_,isBr_strN hg⟩
 rw [strN_size,List.length_cons,List.length_take]
 omega
theorem lexF_tq:∀ (f:Nat) (i:Int) (l:List Nat) (acc:List Tok),(∀ t∈acc,TQ t)→∀ t∈(lexF f i l acc).1,TQ t
 | 0,i,[],acc,h=>by
  rw [lexF_nil]
  intro t ht
  rcases List.mem_append.1 ht with q|q
  ·exact h t q
  rw [List.mem_singleton.1 q];intro hk;simp [tok0] at hk
 | 0,i,_::_,acc,h=>by simp [lexF]
 | f+1,i,[],acc,h=>by
  rw [lexF_nil]
  intro t ht
  rcases List.mem_append.1 ht with q|q
  ·exact h t q
  rw [List.mem_singleton.1 q];intro hk;simp [tok0] at hk
 | f+1,i,c::l,acc,h=>by
  by_cases hb:(oneL i (c::l)).2.2≠0
  ·rw [lexF_bad hb];simp
  have hb:=Classical.not_not.1 hb
  rw [lexF_go hb]
  refine lexF_tq f _ _ _ (fun t ht=>?_)
  rcases List.mem_append.1 ht with q|q
  ·exact h t q
  rw [List.mem_singleton.1 q];exact oneL_tq i c l
theorem scanT_tq (s:ByteArray):∀ t∈(scanT s).1,TQ t:=by
 unfold scanT
 split
 ·simp
 split
 ·simp
 exact lexF_tq _ _ _ _ by18
theorem scanT_len2 (s:ByteArray):(scanT s).1.length≤s.size+1:=by
 unfold scanT
 split
 ·simp
 split
 ·simp
 have h:=lexF_len (s.size+1) (ovr false (rst s 0)) ((rst s 0).drop (ovr false (rst s 0))) []
 rw [List.length_drop,rst_len] at h
 simp only [List.length_nil] at h
 omega
theorem arityD_br {s:ByteArray} (hs:isBr s=true):∀ l:List Da,(∀ d∈l,NmB d.s)→arityD s l = -1
 | [],_=>rfl
 | d::l,h=>by
  rw [arityD,if_neg (fun q=>by
   have:=(h d by18).2
   rw [Yt.1 q,hs] at this
   cases this)]
  exact arityD_br hs l (fun x hx=>h x (by simp [hx]))
theorem noBr_of {v:En} (h:∀ d∈v.da,NmB d.s):∀ s,isBr s=true→arityR v s<0:=fun s hs=>by
 have key:∀ k:ByteArray,isBr k=false→¬ sameB s k=true:=fun k hk q=>by
  rw [Yt.1 q,hk] at hs;cases hs
 unfold arityR
 rw [if_neg (fun q=>q.elim (key _ (by decide +kernel)) (key _ (by decide +kernel))),if_neg (key _ (by decide +kernel)),if_neg (key _ (by decide +kernel)),arityD_br hs v.da h]
 decide
open Go.RowKit
structure EnG (v:En):Prop where
 b:EnB v
 cv:∀ x∈v.ins,CtxV x.cx
end Go.Proofs.YteepjjgooplljaaGreat
namespace Go.Proofs.YteepjjgooplljaaGreat
theorem progT_b (s:ByteArray):PgB 70000 (progT s).1:=by
 have hL:=scanT_len s
 unfold progT
 dsimp only
 split
 ·exact pg0_b.up by17
 have k0:POk (scanT s).1 302 (beginP (scanT s)):=by
  unfold beginP
  split
  ·unfold failP POk;simp
  unfold POk;simp
 exact (progL_b hL ((scanT s).1.length+1) 0 _ pg0 k0 pg0_b).up by17
theorem progT_g (s:ByteArray):EnG (envOf (progT s).1)∧(progT s).1.bs.length≤1000000:=by
 have h:=progT_b s
 generalize (progT s).1=x at h
 obtain ⟨da,cl,ins,bs⟩:=x
 obtain ⟨h1,h2,h3,h4,h5,h6,h7⟩:=h
 simp only [Pg.da,Pg.cl,Pg.ins,Pg.bs] at h1 h2 h3 h4 h5 h6 h7
 refine ⟨⟨⟨?_,h5,?_,h6,?_,fun x hx=>(h7 x hx).1⟩,fun x hx=>(h7 x hx).2⟩,?_⟩
 ·show da.length≤100000;omega
 ·show cl.length≤100000;omega
 ·show ins.length≤100000;omega
 show bs.length≤1000000;omega
section
variable {L:List Tok}
theorem take2_nm (hL:∀ t∈L,TQ t) (p:PS):NmB (takeP L p 2 kE).1.t:=by
 have h0:NmB (tok0 0).t:=nmB_kE
 unfold takeP
 by_cases he:p.e≠0
 ·rw [if_pos he]
  unfold nxt
  rw [if_pos he]
  exact h0
 rw [if_neg he]
 split
 ·exact h0
 rename_i hc
 have hk:(nxt L p).k=2:=Classical.not_not.1 fun q=>hc (.inl ⟨by decide,q⟩)
 show NmB (nxt L p).t
 unfold nxt at hk ⊢
 rw [if_neg he] at hk ⊢
 cases hx:L[p.at_]? with
 | none=>rw [hx] at hk;simp [tok0] at hk
 | some t =>
  rw [hx] at hk
  exact hL t (Wg hx) hk
theorem uppersL_nm (hL:∀ t∈L,TQ t):∀ (f:Nat) (p:PS) (acc:List ByteArray),(∀ s∈acc,NmB s)→∀ s∈(uppersL L f p acc).1,NmB s
 | 0,p,acc,h=>h
 | f+1,p,acc,h=>by
  unfold uppersL
  split
  ·refine uppersL_nm hL f _ _ (fun s hs=>?_)
   rcases List.mem_append.1 hs with q|q
   ·exact h s q
   rw [List.mem_singleton.1 q];exact take2_nm hL _
  exact h
theorem uppers_nm (hL:∀ t∈L,TQ t) (p:PS):∀ s∈(uppersP L p).1,NmB s :=
 uppersL_nm hL _ _ _ (fun s hs=>by rw [List.mem_singleton.1 hs];exact take2_nm hL _)
def CnT (c:Cn):Prop:=c.ts.length≤1000000∧∀ t∈c.ts,t.size≤9000
def DaT (d:Da):Prop:=NmB d.s∧∀ c∈d.cs,CnT c
def ClT (c:Cl):Prop:=(∀ u∈c.su,NmB u)∧∀ m∈c.ms,m.t.size≤9000
theorem con_t (hn:L.length≤4000) {p:PS} (k:POk L 302 p):CnT (conP L p).1:=by
 have a1:=Zn (L:=L) (kind:=2) (s:=kE) by16 k
 have h:=typesL_size (T:=typeP L) (fun q kq=>typeF_size (L:=L) 302 q kq) Xe (L.length+1) (takeP L p 2 kE).2 [] (a1.ok k)
 have a2:=typesL_adv (L:=L) (n:=302) (T:=typeP L) Xe (L.length+1) (takeP L p 2 kE).2 [] (a1.ok k)
 have h2:=a2.2.1
 show (typesL L (typeP L) (L.length+1) (takeP L p 2 kE).2 []).1.length≤1000000∧∀ t∈(typesL L (typeP L) (L.length+1) (takeP L p 2 kE).2 []).1,t.size≤9000
 generalize (typesL L (typeP L) (L.length+1) (takeP L p 2 kE).2 [])=r at *
 simp only [Ty.sizes] at h
 have hl:=Ty.len_sizes r.1
 refine ⟨by omega,fun t ht=>?_⟩
 obtain ⟨i,hi⟩:=List.mem_iff_getElem?.1 ht
 have:=Ty.size_at hi
 omega
theorem consL_t (hn:L.length≤4000):∀ (f:Nat) (p:PS) (acc:List Cn),POk L 302 p→(∀ c∈acc,CnT c)→∀ c∈(consL L f p acc).1,CnT c
 | 0,p,acc,k,h=>h
 | f+1,p,acc,k,h=>by
  unfold consL
  by_cases he:p.e≠0
  ·rw [if_pos he];exact h
  rw [if_neg he]
  have a1:=con_adv k
  have hc:=con_t hn k
  have h2:∀ c∈acc++[(conP L p).1],CnT c:=fun c hc2=>by
   rcases List.mem_append.1 hc2 with q|q
   ·exact h c q
   rw [List.mem_singleton.1 q];exact hc
  by_cases hb:isP L (conP L p).2 kBar=true
  ·rw [if_pos hb]
   exact consL_t hn f _ _ ((Yf (a1.ok k) hb).ok (a1.ok k)) h2
  rw [if_neg hb];exact h2
theorem data_t (hL:∀ t∈L,TQ t) (hn:L.length≤4000) {p:PS} (k:POk L 302 p):DaT (dataP L p).1:=by
 have a1:=Zn (L:=L) (kind:=2) (s:=kE) by16 k
 have a2:=a1.trans (paramsL_adv (L.length+1) _ [] (a1.ok k))
 have a3:=a2.trans (Zn (kind:=7) (s:=kEq) by16 (a2.ok k))
 exact ⟨take2_nm hL p,consL_t hn (L.length+1) _ [] (a3.ok k) (fun c hc=>by simp at hc)⟩
theorem class_t (hL:∀ t∈L,TQ t) (hn:L.length≤4000) {p:PS} (k:POk L 302 p):ClT (classP L p).1:=by
 have a1:=Zn (L:=L) (kind:=2) (s:=kE) by16 k
 have a2:=a1.trans (Zn (kind:=1) (s:=kE) by16 (a1.ok k))
 have a3:=a2.trans (supers_adv (a2.ok k))
 have a4:=a3.trans (Zn (kind:=6) (s:=kWhere) by16 (a3.ok k))
 refine ⟨?_,?_⟩
 ·show ∀ u∈(supersP L (takeP L (takeP L p 2 kE).2 1 kE).2).1,NmB u
  unfold supersP
  split
  ·exact uppers_nm hL _
  simp
 exact clsL_mt (L:=L) (B:=9000) by17 (L.length+1) _ [] [] (a4.ok k) (fun m hm=>by simp at hm)
def PgT (x:Pg):Prop:=(∀ d∈x.da,DaT d)∧∀ c∈x.cl,ClT c
theorem decl_t (hL:∀ t∈L,TQ t) (hn:L.length≤4000) {p:PS} {x:Pg} (k:POk L 302 p) (h:PgT x):PgT (declP L p x).1:=by
 obtain ⟨h1,h2⟩:=h
 obtain ⟨da,cl,ins,bs⟩:=x
 unfold declP
 by_cases q1:isP L p kData=true
 ·rw [if_pos q1]
  refine ⟨fun d hd=>?_,h2⟩
  rcases List.mem_append.1 hd with q|q
  ·exact h1 d q
  rw [List.mem_singleton.1 q];exact data_t hL hn ((Yf k q1).ok k)
 by_cases q2:isP L p kClass=true
 ·rw [if_neg q1,if_pos q2]
  refine ⟨h1,fun d hd=>?_⟩
  rcases List.mem_append.1 hd with q|q
  ·exact h2 d q
  rw [List.mem_singleton.1 q];exact class_t hL hn ((Yf k q2).ok k)
 by_cases q3:isP L p kInst=true
 ·rw [if_neg q1,if_neg q2,if_pos q3]
  exact ⟨h1,h2⟩
 rw [if_neg q1,if_neg q2,if_neg q3]
 exact ⟨h1,h2⟩
theorem progL_t (hL:∀ t∈L,TQ t) (hn:L.length≤4000):∀ (f:Nat) (p:PS) (x:Pg),POk L 302 p→PgT x→PgT (progL L f p x).1
 | 0,p,x,k,h=>h
 | f+1,p,x,k,h=>by
  unfold progL
  by_cases he:p.e≠0∨(nxt L p).k=0
  ·rw [if_pos he];exact h
  rw [if_neg he]
  have a1:=decl_adv x k
  have a2:=a1.trans (Zn (kind:=7) (s:=kSemi) by16 (a1.ok k))
  exact progL_t hL hn f _ _ (a2.ok k) (decl_t hL hn k h)
end
theorem progT_t (s:ByteArray) (hs:s.size≤3000):PgT (progT s).1:=by
 have hL:=scanT_len2 s
 unfold progT
 dsimp only
 split
 ·exact ⟨fun d hd=>by simp [pg0,Pg.da] at hd,fun d hd=>by simp [pg0,Pg.cl] at hd⟩
 have k0:POk (scanT s).1 302 (beginP (scanT s)):=by
  unfold beginP
  split
  ·unfold failP POk;simp
  unfold POk;simp
 exact progL_t (scanT_tq s) by17 _ _ pg0 k0 ⟨fun d hd=>by simp [pg0,Pg.da] at hd,fun d hd=>by simp [pg0,Pg.cl] at hd⟩
theorem env_t (s:ByteArray) (hs:s.size≤3000):EnT (envOf (progT s).1)∧∀ q,isBr q=true→arityR (envOf (progT s).1) q<0:=by
 have h:=progT_t s hs
 have hb:=(progT_b s).cls
 generalize (progT s).1=x at *
 obtain ⟨da,cl,ins,bs⟩:=x
 obtain ⟨h1,h2⟩:=h
 replace h1:∀ d∈da,DaT d:=h1
 replace h2:∀ c∈cl,ClT c:=h2
 replace hb:∀ c∈cl,ClB c:=hb
 refine ⟨⟨fun c hc u hu=>?_,fun c hc=>?_,fun c hc m hm=>(h2 c hc).2 m hm,fun d hd c hc=>(h1 d hd).2 c hc⟩,noBr_of (v:=.mk da cl ins) fun d hd=>(h1 d hd).1⟩
 ·have:=((h2 c hc).1 u hu).1;omega
 have:=hb c hc;unfold ClB at this;omega
open Go.RowKit
mutual
theorem Pa.size_bulk:∀ q:Pa,q.size≤bulks q.cells
 | .mk k s n ks p=>by
  have:=Pa.sizes_bulk ks
  simp only [Pa.size,Pa.cells,bulks,AV.bulk];omega
theorem Pa.sizes_bulk:∀ l:List Pa,Pa.sizes l≤bulkss (Pa.cellss l)
 | []=>by simp [Pa.sizes,Pa.cellss,bulkss]
 | x::l=>by
  have:=Pa.size_bulk x
  have:=Pa.sizes_bulk l
  simp only [Pa.sizes,Pa.cellss,bulkss];omega
end
theorem ty4_bulk (t:Ty):4≤bulks t.cells:=by
 obtain ⟨k,s,n,ks⟩:=t
 simp only [Ty.cells,bulks,AV.bulk]
 omega
theorem tys_bulk:∀ l:List Ty,4 * l.length≤bulkss (Ty.cellss l)
 | []=>Nat.zero_le _
 | t::l=>by
  have h1:=ty4_bulk t
  have h2:=tys_bulk l
  simp only [Ty.cellss,bulkss,List.length_cons]
  omega
theorem strs_bulk:∀ l:List ByteArray,l.length≤bulkss (strs l)
 | []=>Nat.zero_le _
 | t::l=>by
  have h2:=strs_bulk l
  simp only [strs,List.map_cons,bulkss,bulks,AV.bulk,List.length_cons] at h2 ⊢
  omega
mutual
theorem Co.n_bulk:∀ e:Co,e.N≤bulks e.cells
 | .mk k s n t ts ks al bs=>by
  have h1:=Co.ns_bulk ks
  have h2:=Ca.ns_bulk al
  have h3:=Cb.ns_bulk bs
  simp only [Co.N,Co.cells,bulks,bulks_app,AV.bulk]
  omega
theorem Co.ns_bulk:∀ l:List Co,Co.Ns l≤bulkss (Co.cellss l)
 | []=>Nat.zero_le _
 | x::l=>by
  have h1:=Co.n_bulk x
  have h2:=Co.ns_bulk l
  simp only [Co.Ns,Co.cellss,bulkss]
  omega
theorem Ca.n_bulk:∀ e:Ca,e.N≤1+bulks e.cells
 | .mk q e=>by
  have h1:=Co.n_bulk e
  have h2:=Pa.size_bulk q
  simp only [Ca.N,Ca.cells,bulks_app]
  omega
theorem Ca.ns_bulk:∀ l:List Ca,Ca.Ns l≤bulkss (Ca.cellss l)
 | []=>Nat.zero_le _
 | .mk q e::l=>by
  have h1:=Co.n_bulk e
  have h2:=Ca.ns_bulk l
  have h3:=Pa.size_bulk q
  have h4:q.size+1≤bulks q.cells:=by
   obtain ⟨k,s,n,ks,p⟩:=q
   have:=Pa.sizes_bulk ks
   simp only [Pa.size,Pa.cells,bulks,AV.bulk]
   omega
  simp only [Ca.Ns,Ca.N,Ca.cellss,Ca.cells,bulkss,bulks_app]
  omega
theorem Cb.ns_bulk:∀ l:List Cb,Cb.Ns l≤bulkss (Cb.cellss l)
 | []=>Nat.zero_le _
 | .mk s vs t e::l=>by
  have h1:=Co.n_bulk e
  have h2:=Cb.ns_bulk l
  have h3:=strs_bulk vs
  simp only [Cb.Ns,Cb.N,Cb.cellss,Cb.cells,bulkss,bulks,bulks_app,AV.bulk]
  omega
end
mutual
theorem Co.sz_bulk:∀ e:Co,bulks e.cells≤1048576→e.Sz
 | .mk k s n t ts ks al bs,h=>by
  have h4:=tys_bulk ts
  simp only [Co.cells,bulks,bulks_app,AV.bulk] at h
  rw [Co.Sz]
  exact ⟨by omega,by omega,Co.szs_bulk ks by17,Ca.szs_bulk al by17,Cb.szs_bulk bs by17⟩
theorem Co.szs_bulk:∀ l:List Co,bulkss (Co.cellss l)≤1048576→Co.Szs l
 | [],_=>trivial
 | x::l,h=>by
  simp only [Co.cellss,bulkss] at h
  exact ⟨Co.sz_bulk x by17,Co.szs_bulk l by17⟩
theorem Ca.szs_bulk:∀ l:List Ca,bulkss (Ca.cellss l)≤1048576→Ca.Szs l
 | [],_=>trivial
 | .mk q e::l,h=>by
  simp only [Ca.cellss,Ca.cells,bulkss,bulks_app] at h
  exact ⟨Co.sz_bulk e by17,Ca.szs_bulk l by17⟩
theorem Cb.szs_bulk:∀ l:List Cb,bulkss (Cb.cellss l)≤1048576→Cb.Szs l
 | [],_=>trivial
 | .mk s vs t e::l,h=>by
  simp only [Cb.cellss,Cb.cells,bulkss,bulks,bulks_app] at h
  exact ⟨Co.sz_bulk e by17,Cb.szs_bulk l by17⟩
end
theorem rPutW_c (names:List ByteArray) (hnm:names.length≤1000000) (ts:List Ty) (d:Nat):∀ t:Ty,t.size≤d→t.wd→PCall Tryz.prog 49 [.seq 1 (strs names),.seq 4 (Ty.cellss ts),.agg t.cells] (.agg (t.turn (putO names ts)).cells):=by
 induction d with
 | zero=>intro t hd;have:=Ty.size_pos t;omega
 | succ d ih =>
  rintro ⟨k,s,n,ks⟩ hd hmx
  have hl:=Ty.cellss_len ks
  have hlt:=Ty.cellss_len ts
  have hln:=Ya names
  rw [Ty.size] at hd
  rw [Ty.wd] at hmx
  obtain ⟨hls,hws⟩:=hmx
  refine Zc Tryz.func49 U (by kernel_rfl) U (Wc U) ?_
  refine QN ?_
  refine c_lens (t:=0) U (.seq _ _) (fun hmax=>?_)
  refine c_lens (t:=1) U (.seq _ _) (fun hmax1=>?_)
  refine Ql ?_
  refine QdG ?_;intro b5
  refine QE ?_;intro b6
  refine Qa8 ?_
  refine Qdm ?_;intro c12 h12
  refine Qa ?_
  obtain ⟨rfl,g12⟩|⟨rfl,g12⟩:=Za h12
  ·refine Qp ?_
   have hN:putO names ts (.mk k s n ks)=none:=by
    first
     | exact putO_not g12
     | exact hu.elim (fun h=>putO_out (by have h2:=h.2;rw [List.take_of_length_le by17] at h2;rw [firstAt_out h2];omega)) (fun h=>h.2)
   refine Qi ?_
   refine Qae ?_
   refine ACode.ownNil (t:=8) 24 4 U ?_
   refine Xk (σ:=Nat × Value) (fun zz=>match zz with|(i,u)=>[(0,.seq 1 (strs names)),(1,.seq 4 (Ty.cellss ts)),(5,.ptr b5 0),(6,.ptr b6 0),(8,.own u 4 (Ty.cellss (Ty.turns (putO names ts) (ks.take i)))),(9,.val (.int .i64 i))]) (fun zz=>match zz with|(i,u)=>[.own 24 4 u,.loc b6 zTyW,.loc b5 (Ty.cells (.mk k s n ks))]) (fun zz=>match zz with|(i,u)=>i≤ks.length) (fun zz=>match zz with|(i,u)=>ks.length - i) ((0,.slice none 0 0)) ?_ ?_ ?_ ?_
   ·simp
   ·exact by5
   ·exact by4
   rintro ⟨i,u⟩ hI
   try dsimp only [List.cons_append,List.nil_append] at hI ⊢
   refine QS ?_
   refine Qb2 ?_
   refine QY ?_;intro n39
   refine Qg ?_;intro c40 h40
   refine Qa ?_
   obtain ⟨rfl,g40⟩|⟨rfl,g40⟩:=Za h40
   ·refine Qag ?_
    rw [List.take_of_length_le by17]
    refine Qi ?_
    refine Qcq ?_
    refine Qb ?_
    refine Zb 56 U U U (Zd (xs:=[.tmp 54,.tmp 55]) U U (kids_c (.mk k s n ks) (Ty.turns (putO names ts) ks)) by2 ?_)
    refine Qdd ?_
    refine Qr ?_
    rw [Ty.turn_none hN]
    exact Zk (i:=1) U U U Zx U by3 by4 ⟨U,U⟩
   refine QaV ?_
   obtain ⟨⟨k',s',n',ks'⟩,hx⟩:=Zj (l:=ks) (i:=i) by17
   have hcx:=Ty.cellss_get hx
   have hsz:=Ty.size_at hx
   have H:=ih (.mk k' s' n' ks') by17 (Ty.wds_at hws hx)
   have he:Ty.cellss (Ty.turns (putO names ts) (ks.take (i+1)))=Ty.cellss (Ty.turns (putO names ts) (ks.take i))++[(Ty.turn (putO names ts) (.mk k' s' n' ks')).cells]:=by rw [Yd hx,Ty.turns_snoc,Ty.cellss_app];rfl
   generalize Ty.turn (putO names ts) (.mk k' s' n' ks')=r at H he
   obtain ⟨rk,rs,rn,rks⟩:=r
   refine QaO ?_
   refine Qb2 ?_
   refine Qb ?_
   refine Qc2 ?_
   refine Zb 51 U U U (Zd (xs:=[.tmp 44,.tmp 45,.tmp 50]) U U (H) by2 ?_)
   refine Qg1 ?_
   refine Qg2 ?_
   intro u53
   refine QaD ?_
   exact ⟨(i+1,u53),by simp;omega,by simp;omega,(by repeat' (first|exact Xz _|refine Xy U ?_ ?_|exact Xu _|exact Le.own _ _ _|exact Xx _|(refine Wb ?_;(rw [he];rfl))|(refine Le.own_seq ?_;(rw [he];rfl))|(refine Le.seq_eq ?_;(rw [he];rfl)))),by4⟩
  refine Qq ?_
  refine Qab ?_
  refine Xk (σ:=Nat) (fun zz=>match zz with|i=>[(0,.seq 1 (strs names)),(1,.seq 4 (Ty.cellss ts)),(5,.ptr b5 0),(6,.ptr b6 0),(7,.val (.int .i64 i))]) (fun zz=>match zz with|i=>[.loc b6 zTyW,.loc b5 (Ty.cells (.mk k s n ks))]) (fun zz=>match zz with|i=>i≤names.length+1∧(i≤names.length∧s∉names.take i∨i=names.length+1∧putO names ts (.mk k s n ks)=none)) (fun zz=>match zz with|i=>names.length+1 - i) (0) ?_ ?_ ?_ ?_
  ·exact ⟨by omega,Or.inl ⟨by omega,by simp⟩⟩
  ·exact by5
  ·exact by4
  rintro i hI
  try dsimp only [List.cons_append,List.nil_append] at hI ⊢
  obtain ⟨hi,hu⟩:=hI
  refine QcV ?_;intro n15
  refine Qg ?_;intro c16 h16
  refine Qa ?_
  obtain ⟨rfl,g16⟩|⟨rfl,g16⟩:=Za h16
  ·refine Qag ?_
   have hN:putO names ts (.mk k s n ks)=none:=by
    first
     | exact putO_not g12
     | exact hu.elim (fun h=>putO_out (by have h2:=h.2;rw [List.take_of_length_le by17] at h2;rw [firstAt_out h2];omega)) (fun h=>h.2)
   refine Qi ?_
   refine Qae ?_
   refine ACode.ownNil (t:=8) 24 4 U ?_
   refine Xk (σ:=Nat × Value) (fun zz=>match zz with|(i,u)=>[(0,.seq 1 (strs names)),(1,.seq 4 (Ty.cellss ts)),(5,.ptr b5 0),(6,.ptr b6 0),(8,.own u 4 (Ty.cellss (Ty.turns (putO names ts) (ks.take i)))),(9,.val (.int .i64 i))]) (fun zz=>match zz with|(i,u)=>[.own 24 4 u,.loc b6 zTyW,.loc b5 (Ty.cells (.mk k s n ks))]) (fun zz=>match zz with|(i,u)=>i≤ks.length) (fun zz=>match zz with|(i,u)=>ks.length - i) ((0,.slice none 0 0)) ?_ ?_ ?_ ?_
   ·simp
   ·exact by5
   ·exact by4
   rintro ⟨i,u⟩ hI
   try dsimp only [List.cons_append,List.nil_append] at hI ⊢
   refine QS ?_
   refine Qb2 ?_
   refine QY ?_;intro n39
   refine Qg ?_;intro c40 h40
   refine Qa ?_
   obtain ⟨rfl,g40⟩|⟨rfl,g40⟩:=Za h40
   ·refine Qag ?_
    rw [List.take_of_length_le by17]
    refine Qi ?_
    refine Qcq ?_
    refine Qb ?_
    refine Zb 56 U U U (Zd (xs:=[.tmp 54,.tmp 55]) U U (kids_c (.mk k s n ks) (Ty.turns (putO names ts) ks)) by2 ?_)
    refine Qdd ?_
    refine Qr ?_
    rw [Ty.turn_none hN]
    exact Zk (i:=1) U U U Zx U by3 by4 ⟨U,U⟩
   refine QaV ?_
   obtain ⟨⟨k',s',n',ks'⟩,hx⟩:=Zj (l:=ks) (i:=i) by17
   have hcx:=Ty.cellss_get hx
   have hsz:=Ty.size_at hx
   have H:=ih (.mk k' s' n' ks') by17 (Ty.wds_at hws hx)
   have he:Ty.cellss (Ty.turns (putO names ts) (ks.take (i+1)))=Ty.cellss (Ty.turns (putO names ts) (ks.take i))++[(Ty.turn (putO names ts) (.mk k' s' n' ks')).cells]:=by rw [Yd hx,Ty.turns_snoc,Ty.cellss_app];rfl
   generalize Ty.turn (putO names ts) (.mk k' s' n' ks')=r at H he
   obtain ⟨rk,rs,rn,rks⟩:=r
   refine QaO ?_
   refine Qb2 ?_
   refine Qb ?_
   refine Qc2 ?_
   refine Zb 51 U U U (Zd (xs:=[.tmp 44,.tmp 45,.tmp 50]) U U (H) by2 ?_)
   refine Qg1 ?_
   refine Qg2 ?_
   intro u53
   refine QaD ?_
   exact ⟨(i+1,u53),by simp;omega,by simp;omega,(by repeat' (first|exact Xz _|refine Xy U ?_ ?_|exact Xu _|exact Le.own _ _ _|exact Xx _|(refine Wb ?_;(rw [he];rfl))|(refine Le.own_seq ?_;(rw [he];rfl))|(refine Le.seq_eq ?_;(rw [he];rfl)))),by4⟩
  refine Qk ?_
  obtain ⟨y,hy⟩:=Zj (l:=names) (i:=i) by17
  have hcy:=Xc hy
  refine Q6 ?_
  refine QbZ ?_
  refine Zq 21 U U (Zh U te_44 U (.seq _ _) U U by14 ⟨U,U⟩) ?_
  refine QdV ?_
  refine QbR ?_
  refine QdM ?_
  refine Yj 25 U U (fun _ q=>op_seql U U U q) ?_;intro c25 h25
  show AGo _ _ _ _ _ _ _
  refine Qc ?_
  obtain ⟨rfl,g25⟩|⟨rfl,g25⟩:=Za h25
  ·refine QL ?_
   first|(rw [hln];exact ⟨names.length+1,⟨by omega,Or.inr ⟨rfl,hB⟩⟩,by simp;omega,by5,by4⟩)|exact ⟨i+1,⟨by omega,by rcases hu with ⟨_,hu⟩|hu;exact Or.inl ⟨by omega,not_mem_take hu hy g25⟩;omega⟩,by simp;omega,by5,by4⟩
  refine Q4 ?_
  refine QaA ?_
  refine QY ?_;intro n28
  refine Qg ?_;intro c29 h29
  refine Qa ?_
  obtain ⟨rfl,g29⟩|⟨rfl,g29⟩:=Za h29
  ·refine QbW ?_
   obtain ⟨_,hu⟩:i≤names.length∧s∉names.take i:=by rcases hu with hu|hu;exact hu;omega
   have hB:putO names ts (.mk k s n ks)=none:=putO_big (by rw [firstAt_at hu (by rw [hy,g25])];omega)
   refine Qh ?_
   refine QbB ?_;intro n35
   refine QaD ?_
   first|(rw [hln];exact ⟨names.length+1,⟨by omega,Or.inr ⟨rfl,hB⟩⟩,by simp;omega,by5,by4⟩)|exact ⟨i+1,⟨by omega,by rcases hu with ⟨_,hu⟩|hu;exact Or.inl ⟨by omega,not_mem_take hu hy g25⟩;omega⟩,by simp;omega,by5,by4⟩
  refine QM ?_
  obtain ⟨⟨yk,ys,yn,yks⟩,hz⟩:=Zj (l:=ts) (i:=i) by17
  have hcz:=Ty.cellss_get hz
  refine Q8 ?_
  refine Qc2 ?_
  refine Qc4 ?_
  obtain ⟨_,hu⟩:i≤names.length∧s∉names.take i:=by rcases hu with hu|hu;exact hu;omega
  have hR:Ty.turn (putO names ts) (.mk k s n ks)=.mk yk ys yn yks:=by
   refine Ty.turn_some ?_
   rw [g12,putO_in (firstAt_at hu (by rw [hy,g25])),hz]
  rw [hR]
  exact Zk (i:=0) U U U Zx U by3 by4 ⟨U,U⟩
def wcC (v:En) (pm:List (List AV)) (sc:List Cb) (vs:List ByteArray):List AV:=v.cells++[.seq 17 (Cb.cellss sc),.seq 1 (strs vs),.seq 9 pm]
theorem rAnd_c (v:En) (pm:List (List AV)) (sc l:List Cb) (vs us:List ByteArray) (h1:sc.length≤1000000000) (h2:l.length≤1000000000) (h3:vs.length≤1000000000) (h4:us.length≤1000000000):PCall Tryz.prog 77 [.agg (wcC v pm sc vs),.seq 17 (Cb.cellss l),.seq 1 (strs us)] (.agg (wcC v pm (sc++l) (vs++us))):=by
 have hl1:=Cb.cellss_len sc
 have hl2:=Cb.cellss_len l
 have hl3:=Ya vs
 have hl4:=Ya us
 unfold wcC
 rw [Cb.cellss_app,Xm]
 obtain ⟨da,cl,ins⟩:=v
 simp only [En.cells,List.cons_append,List.nil_append]
 refine Zc Tryz.func77 U (by kernel_rfl) U (Wc U) ?_
 refine Qbj ?_
 refine QeC ?_;intro b6
 refine Qu ?_
 refine QK ?_
 refine Qd ?_
 refine Zb 12 U U U (op_append_nil el_27 U U U (.seq _ _) by7 ?_)
 intro u12
 refine Qs ?_
 refine QK ?_
 refine Qd ?_
 refine Zb 16 U U U (op_append_nil Yy U U U (.seq _ _) by7 ?_)
 intro u16
 refine QG ?_
 refine Yh [0,1,2,3,5,6,8,9,4,7,10,11] [4,7,11] [[],[0],[],[],[2,3],[],[],[2,3,4,5,6],[],[8],[0,1,2,3,4,5,6,7,8,9],[0,1,2,3,4,5,6,7,8,9,10]] Yx U ?_
 refine Qcm ?_
 refine Qeu ?_
 refine QbM ?_
 refine QbM ?_
 refine QaL ?_
 refine Yc 1 (i:=4) U U U U U (Zv (i:=0) el_27 U U U U (.seq _ _) by7 (fun u21=>⟨_,U,?_⟩))
 refine Yc 0 (i:=7) U U U U U (Zv (i:=0) Yy U U U U (.seq _ _) by7 (fun u24=>⟨_,U,?_⟩))
 refine Zi 27 (none) (i:=10) U U U U U (Zm (ns:=[0,1,2,3]) (xs:=[.tmp 18,.tmp 21,.tmp 24,.tmp 26]) U tz_97 U tfl_97 U U U U ⟨U,U⟩) ?_
 refine Yc 2 (i:=11) U U U U U (Zp (cs':=[_,_,_,_,_,_]) (i:=0) U ts_97 U U U U U (Wc U) U ⟨_,U,?_⟩)
 show AGo _ _ _ _ _ _ _
 refine QI ?_
 exact Zk (i:=2) U U U ta_97 U by3 (Xp _) ⟨U,U⟩
theorem rParts_none (v:En) (s:ByteArray) (t:Ty) (h:partsC v s t=none):PCall Tryz.prog 137 [.agg v.cells,.val (.string s),.agg t.cells] (.tup [.seq 4 [],.val (.bool false)]):=by
 have HC:=Class_c v s
 have hc:¬ 0≤classI v s:=fun q=>by
  unfold partsC at h
  obtain ⟨c,h1,_⟩:=classI_hit q
  rw [if_neg by17,h1] at h
  simp at h
 generalize classI v s=i at *
 obtain ⟨tk,tn,tm,tl⟩:=t
 obtain ⟨da,cl,ins⟩:=v
 simp only [En.cells] at *
 refine Qg3 ?_
 refine Qar ?_
 refine QcE ?_
 refine Qdw ?_
 refine Qb ?_
 refine Zb 15 U U U (Zd (xs:=[.tmp 13,.tmp 14]) U U (HC) by2 ?_)
 refine QU ?_
 refine Qg ?_;intro c17 h17
 refine Qa ?_
 obtain ⟨rfl,g17⟩|⟨rfl,g17⟩:=Za h17
 ·refine Qp ?_
  omega
 refine QaZ ?_
 exact Yn U U U (Le.tup (Xw (Xx 4) (Xv _))) (Xp _) ⟨U,U⟩
theorem rParts_some (v:En) (hv:EnT v) (s:ByteArray) (t:Ty) (l:List Ty) (h:partsC v s t=some l):PCall Tryz.prog 137 [.agg v.cells,.val (.string s),.agg t.cells] (.tup [.seq 4 (Ty.cellss l),.val (.bool true)]):=by
 have HC:=Class_c v s
 have hc:0≤classI v s:=by
  unfold partsC at h
  by_cases q:classI v s<0
  ·rw [if_pos q] at h;simp at h
  omega
 obtain ⟨⟨ys,yv,ysu,yms,yds,yp⟩,hy,_⟩:=classI_hit hc
 have hmy:=Wg hy
 unfold partsC at h
 rw [if_neg by17,hy] at h
 have h:ysu.map (fun u=>starC u t)++yms.map (fun m=>m.t.turn (putO [yv] [t]))=l:=Option.some.inj h
 obtain ⟨hl1,hl2⟩:=hv.sl _ hmy
 have hl1:ysu.length≤1000000:=hl1
 have hl2:yms.length≤1000000:=hl2
 have hsz:∀ u∈ysu,u.size≤1000000000000:=hv.su _ hmy
 have HP:=fun (m:Me) (hm:m∈yms)=>rPutW_c [yv] by18 [t] m.t.size m.t (Nat.le_refl _) (Ty.size_wd _ m.t (Nat.le_refl _) (by have:m.t.size≤9000:=hv.mt _ hmy m hm;omega))
 have HN:=fun u:ByteArray=>rcon_c (kBr++u) [t]
 have hcy:=Cl.cellss_get hy
 obtain ⟨i,hi⟩:∃ i:Nat,classI v s=(i:Int):=⟨(classI v s).toNat,by omega⟩
 rw [hi] at hcy
 rw [hi] at HC
 replace hcy:(Cl.cellss v.cl)[i]?=some _:=hcy
 clear hi hy
 have hls:=Ya ysu
 have hlm:=Me.cellss_len yms
 have hk:kBr.size=1:=rfl
 have hk2:(⟨#[123]⟩:ByteArray).size=1:=rfl
 clear hv hc
 generalize hF:Ty.turn (putO [yv] [t])=F at *
 obtain ⟨tk,tn,tm,tl⟩:=t
 obtain ⟨da,cl,ins⟩:=v
 simp only [En.cells,En.cl,starC] at *
 refine Qg3 ?_
 refine Qar ?_
 refine QcE ?_
 refine Qdw ?_
 refine Qb ?_
 refine Zb 15 U U U (Zd (xs:=[.tmp 13,.tmp 14]) U U (HC) by2 ?_)
 refine QU ?_
 refine Qg ?_;intro c17 h17
 refine Qa ?_
 obtain ⟨rfl,g17⟩|⟨rfl,g17⟩:=Za h17
 ·refine QV ?_
  refine QT ?_
  refine QfO ?_
  refine Qew ?_
  refine QeM ?_;intro b9
  refine Qfv ?_
  refine Qu ?_
  refine Qae ?_
  refine Yp 24 4 ?_
  apply Yl (rg [(0,5),(8,1),(10,2),(13,29)]) (σ:=Nat × List Ty × Value) (fun zz=>match zz with|(n,out,u)=>[(10,.own u 4 (Ty.cellss out)),(11,.val (.int .i64 n))]) (fun zz=>match zz with|(n,out,u)=>[.loc b9 [.val (.string ys),.val (.string yv),.seq 1 (strs ysu),.seq 6 (Me.cellss yms),.seq 13 (Bi.cellss yds),.val (.int .i64 yp)],.own 24 4 u]) (fun zz=>match zz with|(n,out,u)=>n≤ysu.length∧out=(ysu.take n).map fun u=>Ty.mk 3 (kBr++u) 0 [.mk tk tn tm tl]) (fun zz=>match zz with|(n,out,u)=>ysu.length - n) ((0,[],.slice none 0 0))
  ·repeat' (first|exact Wf|apply Wd rfl|apply We rfl)
  ·exact ⟨Nat.zero_le _,U⟩
  ·exact Xy U (Le.nilOwn 4) (Xy U (Xu _) by5)
  ·exact by4
  rintro ⟨n,out,u⟩ hI
  try dsimp only [List.cons_append,List.nil_append] at hI ⊢
  obtain ⟨hn,ho⟩:=hI
  have hol:(Ty.cellss out).length=n:=by rw [Ty.cellss_len,ho,List.length_map,List.length_take];omega
  refine QS ?_
  refine Qn ?_
  refine QbB ?_;intro n26
  refine Qg ?_;intro c27 h27
  refine Qa ?_
  obtain ⟨rfl,g27⟩|⟨rfl,g27⟩:=Za h27
  ·refine Qbs ?_
   rw [List.take_of_length_le by17] at ho
   rw [← ho] at h
   refine QaN ?_
   apply Yl (rg [(0,5),(8,1),(10,54)]) (σ:=Nat × List Ty × Value) (fun zz=>match zz with|(n,o2,u)=>[(10,.own u 4 (Ty.cellss o2)),(12,.val (.int .i64 n))]) (fun zz=>match zz with|(n,o2,u)=>[.loc b9 [.val (.string ys),.val (.string yv),.seq 1 (strs ysu),.seq 6 (Me.cellss yms),.seq 13 (Bi.cellss yds),.val (.int .i64 yp)],.own 24 4 u]) (fun zz=>match zz with|(n,o2,u)=>n≤yms.length∧o2=out++(yms.take n).map fun m=>F m.t) (fun zz=>match zz with|(n,o2,u)=>yms.length - n) ((0,out,u))
   ·repeat' (first|exact Wf|apply Wd rfl|apply We rfl)
   ·exact ⟨Nat.zero_le _,by simp⟩
   ·exact by5
   ·exact by4
   rintro ⟨n,o2,u⟩ hI
   try dsimp only [List.cons_append,List.nil_append] at hI ⊢
   obtain ⟨hn2,ho2⟩:=hI
   have hol2:(Ty.cellss o2).length=out.length+n:=by rw [Ty.cellss_len,ho2,List.length_append,List.length_map,List.length_take];omega
   have hol3:out.length≤1000000:=by rw [ho,List.length_map];omega
   refine QS ?_
   refine Qn ?_
   refine Qes ?_;intro n45
   refine Qg ?_;intro c46 h46
   refine Qa ?_
   obtain ⟨rfl,g46⟩|⟨rfl,g46⟩:=Za h46
   ·refine QcP ?_
    refine Q0 ?_
    refine Qac ?_
    rw [List.take_of_length_le by17] at ho2
    rw [← h,← ho2]
    exact Yn U U U (Le.tup (Xw (Le.own _ _ _) (Xv _))) (Xp _) ⟨U,U⟩
   refine QaV ?_
   obtain ⟨⟨xs,⟨xtk,xts,xtn,xtl⟩,xp⟩,hxx⟩:=Zj (l:=yms) (i:=n) by8
   have hcx:=Me.cellss_get hxx
   have hmx:=Wg hxx
   have HPx:=HP _ hmx
   obtain ⟨⟨rk,rs,rn,rl⟩,hr⟩:∃ r,F ⟨xtk,xts,xtn,xtl⟩=r:=⟨_,rfl⟩
   have HPx:PCall Tryz.prog 49 [.seq 1 (strs [yv]),.seq 4 (Ty.cellss [.mk tk tn tm tl]),.agg (Ty.mk xtk xts xtn xtl).cells] (.agg (F ⟨xtk,xts,xtn,xtl⟩).cells):=HPx
   rw [hr] at HPx
   refine Yh [0,1,2,3,4,5,6,7,8,9,10,11,12,13,14,15] [14] [[],[],[1],[1,2],[],[4],[],[6],[],[6,7,8],[6,7,8,9],[6,7,8,9,10],[1,2,3,4,5,6,7,8,9,10,11],[1,2,3,4,5,6,7,8,9,10,11,12],[0,1,2,3,4,5,6,7,8,9,10,11,12,13],[0,1,2,3,4,5,6,7,8,9,10,11,12,13,14]] Yx U ?_
   refine Qw ?_
   refine Qa7 ?_
   refine Zi 52 (none) (i:=3) U U U U U (Zf (xs:=[.tmp 51]) Yy U U U U U U (Wc U) ⟨U,U⟩) ?_
   refine QbT ?_
   refine Zi 54 (none) (i:=5) U U U U U (Zf (xs:=[.tmp 53]) Xj U U U U U U (Wc U) ⟨U,U⟩) ?_
   refine Qa7 ?_
   refine Qw ?_
   refine Zi 58 (none) (i:=9) U U U U U (Zh U te_116 U (.seq _ _) U U (hcx) ⟨U,U⟩) ?_
   refine Qcm ?_
   refine QbT ?_
   refine Zi 61 (none) (i:=12) U U U U U (Zd (xs:=[.tmp 52,.tmp 54,.tmp 60]) U U (HPx) by2 ⟨U,U⟩) ?_
   refine Zi 62 (none) (i:=13) U U U U U (Zf (xs:=[.tmp 61]) Xj U U U U U U (Wc U) ⟨U,U⟩) ?_
   refine Yc 1 (i:=14) U U U U U (Zv (i:=0) Xj U U U U (.seq _ _) by7 (fun u63=>⟨_,U,?_⟩))
   refine QZ ?_
   show AGo _ _ _ _ _ _ _
   refine QcS ?_
   exact ⟨(n+1,o2++[⟨rk,rs,rn,rl⟩],u63),⟨by show n+1≤yms.length;omega,by show o2++[_]=_;rw [Yd hxx,List.map_append,← List.append_assoc,← ho2,← hr];rfl⟩,by show yms.length - (n+1)<yms.length - n;omega,(by repeat' (first|exact Xz _|refine Xy U ?_ ?_|exact Xu _|exact Le.own _ _ _|exact Xx _|(refine Wb ?_;(rw [Ty.cellss_app];rfl))|(refine Le.own_seq ?_;(rw [Ty.cellss_app];rfl))|(refine Le.seq_eq ?_;(rw [Ty.cellss_app];rfl)))),by4⟩
  refine QaV ?_
  obtain ⟨x,hxx⟩:=Zj (l:=ysu) (i:=n) by8
  have hcx:=Xc hxx
  have hmx:=Wg hxx
  have HNx:=HN x
  have hzx:=hsz x hmx
  refine Yh [0,1,2,3,4,5,6,7,8,9,10,11,12] [11] [[],[],[1],[],[1,2,3],[1,2,3,4],[1,2,3,4,5],[],[7],[1,2,3,4,5,6,7,8],[1,2,3,4,5,6,7,8,9],[0,1,2,3,4,5,6,7,8,9,10],[0,1,2,3,4,5,6,7,8,9,10,11]] Yx U ?_
  refine Qw ?_
  refine Qa7 ?_
  refine Qw ?_
  refine Zi 34 (none) (i:=4) U U U U U (Zh U te_44 U (.seq _ _) U U (hcx) ⟨U,U⟩) ?_
  refine Qel ?_
  refine Zi 36 (none) (i:=6) U U U U U (op_sadd U U U by17 ⟨U,U⟩) ?_
  refine QbT ?_
  refine Zi 38 (none) (i:=8) U U U U U (Zf (xs:=[.tmp 37]) Xj U U U U U U (Wc U) ⟨U,U⟩) ?_
  refine Zi 39 (none) (i:=9) U U U U U (Zd (xs:=[.tmp 36,.tmp 38]) U U (HNx) by2 ⟨U,U⟩) ?_
  refine Zi 40 (none) (i:=10) U U U U U (Zf (xs:=[.tmp 39]) Xj U U U U U U (Wc U) ⟨U,U⟩) ?_
  refine Yc 1 (i:=11) U U U U U (Zv (i:=0) Xj U U U U (.seq _ _) by7 (fun u41=>⟨_,U,?_⟩))
  refine QZ ?_
  show AGo _ _ _ _ _ _ _
  refine QcS ?_
  exact ⟨(n+1,out++[Ty.mk 3 (kBr++x) 0 [.mk tk tn tm tl]],u41),⟨by show n+1≤ysu.length;omega,by show out++[_]=_;rw [Yd hxx,List.map_append,← ho];rfl⟩,by show ysu.length - (n+1)<ysu.length - n;omega,(by repeat' (first|exact Xz _|refine Xy U ?_ ?_|exact Xu _|exact Le.own _ _ _|exact Xx _|(refine Wb ?_;(rw [Ty.cellss_app];rfl))|(refine Le.own_seq ?_;(rw [Ty.cellss_app];rfl))|(refine Le.seq_eq ?_;(rw [Ty.cellss_app];rfl)))),by4⟩
 refine QM ?_
 omega
def nrm (r:Ty × Bool):Ty × Bool:=if r.2=true then r else (tyZ,false)
theorem nrm_t {r:Ty × Bool} (h:r.2=true):nrm r=r:=if_pos h
theorem nrm_f {r:Ty × Bool} (h:r.2=false):nrm r=(tyZ,false):=if_neg (by simp [h])
abbrev RTypC (v:En) (pm:List Pm) (sc:List Cb) (vs:List ByteArray) (e:Co) (r:Ty × Bool):Prop:=PCall Tryz.prog 78 [.agg (wcC v (Pm.cellss pm) sc vs),.agg e.cells] (.tup [.agg (nrm r).1.cells,.val (.bool r.2)])
theorem nrm_mk (r:Ty × Bool):∃ N:Ty,(nrm r).1=N∧(r.2=true→N=r.1):=⟨_,rfl,fun h=>by rw [nrm_t h]⟩
theorem rAre_c (v:En) (pm:List Pm) (sc:List Cb) (vs:List ByteArray) (f:Co→Ty × Bool) (names:List ByteArray) (ats l:List Ty) (ks:List Co) (hnm:names.length≤1000000) (hl:∀ t∈l,t.wd) (H:∀ x∈ks,RTypC v pm sc vs x (f x)):BCall Tryz.prog 130 [.agg (wcC v (Pm.cellss pm) sc vs),.seq 11 (Co.cellss ks),.seq 4 (Ty.cellss l),.seq 1 (strs names),.seq 4 (Ty.cellss ats)] (okL f ks (l.map (Ty.turn (putO names ats)))=true):=by
 have HP:=fun t (ht:t∈l)=>rPutW_c names hnm ats t.size t (Nat.le_refl _) (hl t ht)
 generalize hF:Ty.turn (putO names ats)=F at *
 have hx:=Co.cellss_len ks
 have hq:=Ty.cellss_len l
 obtain ⟨r,hr⟩:∃ r,okL f ks (l.map F)=r:=⟨_,rfl⟩
 have hln := @okL_len f ks (l.map F)
 rw [List.length_map,hr] at hln
 rw [hr]
 generalize hpg:Pm.cellss pm=pg at *
 obtain ⟨da,cl,ins⟩:=v
 unfold RTypC wcC at *
 simp only [En.cells,List.cons_append,List.nil_append] at *
 refine Zc Tryz.func130 U (by kernel_rfl) U (Wc U) ?_
 refine Qbj ?_
 refine QU ?_
 refine Qb9 ?_;intro n15
 refine Qb ?_
 refine QY ?_;intro n17
 refine QP ?_;intro c18 h18
 refine Qa ?_
 obtain ⟨rfl,g18⟩|⟨rfl,g18⟩:=Za h18
 ·refine QaC ?_
  refine Qab ?_
  apply Zu (rg [(0,1),(6,42)]) (σ:=Nat) (fun zz=>match zz with|i=>[(11,.val (.int .i64 i))]) (fun zz=>match zz with|i=>i≤ks.length∧okL f (ks.drop i) ((l.map F).drop i)=r) (fun zz=>match zz with|i=>ks.length - i) (0)
  ·repeat' (first|exact Wf|apply Wd rfl|apply We rfl)
  ·exact ⟨Nat.zero_le _,hr⟩
  ·exact by5
  rintro i hI
  try dsimp only [List.cons_append,List.nil_append] at hI ⊢
  obtain ⟨hi,hf⟩:=hI
  refine QaA ?_
  refine Qb9 ?_;intro n21
  refine Qg ?_;intro c22 h22
  refine Qa ?_
  obtain ⟨rfl,g22⟩|⟨rfl,g22⟩:=Za h22
  ·refine Qad ?_
   rw [Wh by17,Wh (by rw [List.length_map];omega),okL] at hf
   subst hf
   exact Ze U U (Xu _) (Xp _) ⟨⟨_,iff_t U,U⟩,U⟩
  refine Qk ?_
  obtain ⟨⟨yk,ys,yn,⟨ytk,yts,ytn,ytl⟩,yus,yks,yal,ybs⟩,hxy⟩:=Zj (l:=ks) (i:=i) by8
  have hcy:=Co.cellss_get hxy
  have hmy:=Wg hxy
  obtain ⟨⟨zk,zs,zn,zl⟩,hxz⟩:=Zj (l:=l) (i:=i) by8
  have hcz:=Ty.cellss_get hxz
  have hmz:=Wg hxz
  have HG:=H _ hmy
  have HPz:=HP _ hmz
  have hAu:(l.map F)[i]?=some (F ⟨zk,zs,zn,zl⟩):=by rw [List.getElem?_map,hxz];rfl
  rw [Zz hxy,Zz hAu,okL] at hf
  rw [hpg] at HG
  obtain ⟨⟨nk,ns,nn,nl⟩,hN,hNe⟩:=nrm_mk (f (Co.mk yk ys yn ⟨ytk,yts,ytn,ytl⟩ yus yks yal ybs))
  rw [hN] at HG
  clear hN
  generalize f (Co.mk yk ys yn ⟨ytk,yts,ytn,ytl⟩ yus yks yal ybs)=fy at *
  obtain ⟨fy1,c33⟩:=fy
  replace HG:PCall Tryz.prog 78 _ (.tup [.agg _,.val (.bool c33)]):=HG
  obtain ⟨⟨fk,fs,fn,fl⟩,hfz⟩:∃ y,F ⟨zk,zs,zn,zl⟩=y:=⟨_,rfl⟩
  rw [hfz] at HPz hf
  replace hNe:c33=true→Ty.mk nk ns nn nl=fy1:=hNe
  have HS:=SameType_c ⟨nk,ns,nn,nl⟩ ⟨fk,fs,fn,fl⟩
  obtain ⟨w,hw⟩:∃ w,(c33 && fy1.eqC ⟨fk,fs,fn,fl⟩)=w:=⟨_,rfl⟩
  replace hf:(w && okL f (ks.drop (i+1)) ((l.map F).drop (i+1)))=r:=by rw [← hw];exact hf
  have hww:w=true↔c33=true∧Ty.mk nk ns nn nl=⟨fk,fs,fn,fl⟩:=by
   rw [← hw,Bool.and_eq_true,Ty.eqC_iff]
   exact ⟨fun q=>⟨q.1,(hNe q.1).trans q.2⟩,fun q=>⟨q.1,(hNe q.1).symm.trans q.2⟩⟩
  clear hw hNe hfz
  generalize (Ty.mk nk ns nn nl=⟨fk,fs,fn,fl⟩)=sq at *
  refine Yh [0,1,2,3,4,5,6,7,8,9,10,11] [9,10] [[],[],[],[1,2],[1,2,3],[0,1,2,3,4],[0,1,2,3,4,5],[0,1,2,3,4,5,6],[0,1,2,3,4,5,6],[],[0,1,2,3,4,5,6,7,9],[0,1,2,3,4,5,6,7,8,9,10]] Yx U ?_
  refine Qd4 ?_
  refine QbM ?_
  refine Zi 29 (none) (i:=3) U U U U U (Zh U te_25 U (.seq _ _) U U (hcy) ⟨U,U⟩) ?_
  refine Qd8 ?_
  refine Zi 31 (none) (i:=5) U U U U U (Zd (xs:=[.tmp 26,.tmp 30]) U U (HG) by2 ⟨U,U⟩) ?_
  refine Qb4 ?_
  refine Xa (i:=9) U U U (Yb (cs':=[_,_,_,_]) U tz_24 U U (fun b12=>⟨_,U,?_⟩))
  refine Qef ?_
  refine QZ ?_
  show AGo _ _ _ _ _ _ _
  refine Qbd ?_
  refine c_boold 47 (¬ (w=true)) Yx U ?_ _ _ U ?_
  ·skip
   refine QF ?_
   refine Yj 35 U U (fun _ q=>Yz U U q) ?_;intro c35 h35
   try replace h35:=Ym h35 h33
   refine QF ?_
   obtain ⟨rfl,g35⟩|⟨rfl,g35⟩:=Za h35
   ·skip
    refine Qg4 ?_
    refine QaT ?_
    refine QaT ?_
    refine QaT ?_
    refine QaT ?_
    refine Ye 42 U U U U (Zh U te_22 U (.seq _ _) U U (hcz) ⟨U,U⟩) ?_
    refine QeT ?_
    refine Ye 44 U U U U (Zd (xs:=[.tmp 38,.tmp 39,.tmp 43]) U U (HPz) by2 ⟨U,U⟩) ?_
    refine Yk 45 U U U U (fun _ q=>Zg (xs:=[.tmp 37,.tmp 44]) U U (HS) by2 q) ?_;intro c45 h45
    refine Yk 46 U U U U (fun _ q=>Yz U U q) ?_;intro c46 h46
    try replace h46:=Ym h46 h45
    refine QH ?_
    show BoolQ _ _ _ _ _ _
    refine Wa U ?_ by6 by4
    clear HG HPz HS H HP;first|(simp_all;done)|grind
   skip
   refine Qaf ?_
   refine Qca ?_
   refine QH ?_
   show BoolQ _ _ _ _ _ _
   refine Wa U ?_ by6 by4
   clear HG HPz HS H HP;first|(simp_all;done)|grind
  intro c47 h47
  refine Qc ?_
  obtain ⟨rfl,g47⟩|⟨rfl,g47⟩:=Za h47
  ·refine QL ?_
   rw [show w=true by simpa using g47,Bool.true_and] at hf
   exact ⟨i+1,⟨by show i+1≤ks.length;omega,hf⟩,by show ks.length - (i+1)<ks.length - i;omega,by5,by4⟩
  refine QD ?_
  rw [show w=false by simpa using g47,Bool.false_and] at hf
  subst hf
  exact Ze U U (Xu _) (Xp _) ⟨⟨_,iff_f by18,U⟩,U⟩
 refine QD ?_
 exact Ze U U (Xu _) (Xp _) ⟨⟨_,iff_f (fun q=>by have:=hln q;omega),U⟩,U⟩
theorem rUnlike_c (l:List ByteArray):BCall Tryz.prog 176 [.seq 1 (strs l)] (unlB l=true):=by
 have hl:=Ya l
 obtain ⟨r,hr⟩:∃ r,dupB [] l=r:=⟨_,rfl⟩
 rw [show (unlB l=true)=(r=false) by unfold unlB;rw [hr];simp]
 refine Zc Tryz.func176 U (by kernel_rfl) U (Wc U) ?_
 refine QN ?_
 refine c_lens (t:=0) U (.seq _ _) (fun hmax=>?_)
 refine Ql ?_
 refine Qae ?_
 apply Zu (rg [(1,17)]) (σ:=Nat) (fun zz=>match zz with|i=>[(3,.val (.int .i64 i))]) (fun zz=>match zz with|i=>i≤l.length∧dupB (l.take i) (l.drop i)=r) (fun zz=>match zz with|i=>l.length - i) (0)
 ·repeat' (first|exact Wf|apply Wd rfl|apply We rfl)
 ·exact ⟨Nat.zero_le _,hr⟩
 ·exact by5
 rintro i hI
 try dsimp only [List.cons_append,List.nil_append] at hI ⊢
 obtain ⟨hi,hd⟩:=hI
 refine QcV ?_;intro n6
 refine Qg ?_;intro c7 h7
 refine Qa ?_
 obtain ⟨rfl,g7⟩|⟨rfl,g7⟩:=Za h7
 ·refine Qad ?_
  rw [Wh by17,dupB] at hd
  subst hd
  exact Ze U U (Xu _) (Xp _) ⟨⟨_,iff_t U,U⟩,U⟩
 refine Qk ?_
 obtain ⟨x,hxx⟩:=Zj (l:=l) (i:=i) by8
 have hcx:=Xc hxx
 have hmx:=Wg hxx
 rw [Zz hxx,dupB] at hd
 have HC:=Has_c (l.take i) x
 rw [← strs_take] at HC
 refine Q6 ?_
 refine QbZ ?_
 refine Zq 12 U U (op_cuth (k:=i) U te_44 U (.seq _ _) U by17 by17 ⟨U,U⟩) ?_
 refine QbZ ?_
 refine Qg5 ?_
 refine QdV ?_
 refine Yj 17 U U (fun _ q=>Zg (xs:=[.tmp 12,.tmp 16]) U U (HC) by2 q) ?_;intro c17 h17
 show AGo _ _ _ _ _ _ _
 refine Qc ?_
 obtain ⟨rfl,g17⟩|⟨rfl,g17⟩:=Za h17
 ·refine QL ?_
  rw [if_neg (fun q=>g17 (hasB_iff.1 q)),← Yd hxx] at hd
  exact ⟨i+1,⟨by show i+1≤l.length;omega,hd⟩,by show l.length - (i+1)<l.length - i;omega,by5,by4⟩
 refine QD ?_
 rw [if_pos (hasB_iff.2 g17)] at hd
 subst hd
 exact Ze U U (Xu _) (Xp _) ⟨⟨_,iff_f by18,U⟩,U⟩
def enC (b:Cb):List AV:=.val (.string b.s)::.val (.slice none 0 0)::.val (.slice none 0 0)::(b.t.cells++[.val (.bool false)])
def enCs (l:List Cb):List (List AV):=l.map enC
theorem enCs_len (l:List Cb):(enCs l).length=l.length:=by simp [enCs]
theorem enCs_get {l:List Cb} {i:Nat} {b:Cb} (h:l[i]?=some b):(enCs l)[i]?=some (enC b):=by simp [enCs,h]
def Cb.plain (b:Cb):Cb:=.mk b.s [] b.t co0
theorem rNames21_c (l:List Cb) (hb:l.length≤1000000000):OCall Tryz.prog 178 [.seq 8 (enCs l)] 46 17 (Cb.cellss (l.map Cb.plain)):=by
 have hl:=enCs_len l
 refine Zc Tryz.func178 U (by kernel_rfl) U (Wc U) ?_
 refine QN ?_
 refine c_lens (t:=0) U (.seq _ _) (fun hmax=>?_)
 refine Ql ?_
 refine Qs ?_
 refine Qae ?_
 refine Yp 46 17 ?_
 apply Yl (rg [(1,1),(3,23)]) (σ:=Nat × List Cb × Value) (fun zz=>match zz with|(i,out,u)=>[(3,.own u 17 (Cb.cellss out)),(4,.val (.int .i64 i))]) (fun zz=>match zz with|(i,out,u)=>[.own 46 17 u]) (fun zz=>match zz with|(i,out,u)=>i≤l.length∧out=(l.take i).map Cb.plain) (fun zz=>match zz with|(i,out,u)=>l.length - i) ((0,[],.slice none 0 0))
 ·repeat' (first|exact Wf|apply Wd rfl|apply We rfl)
 ·exact ⟨Nat.zero_le _,U⟩
 ·exact Xy U (Le.nilOwn 17) (Xy U (Xu _) by5)
 ·exact by4
 rintro ⟨i,out,u⟩ hI
 try dsimp only [List.cons_append,List.nil_append] at hI ⊢
 obtain ⟨hi,ho⟩:=hI
 have hol:(Cb.cellss out).length=i:=by rw [Cb.cellss_len,ho,List.length_map,List.length_take];omega
 refine QaA ?_
 refine Zb 7 U U U (Yw U tu_226 U (.seq _ _) (fun n7=>?_))
 refine Qg ?_;intro c8 h8
 refine Qa ?_
 obtain ⟨rfl,g8⟩|⟨rfl,g8⟩:=Za h8
 ·refine Qa4 ?_
  rw [List.take_of_length_le by17] at ho
  subst ho
  exact Ze U U (Xu _) by4 ⟨_,U,U⟩
 refine QaV ?_
 obtain ⟨⟨qb,qvs,⟨qwk,qws,qwn,qwl⟩,qe⟩,hxq⟩:=Zj (l:=l) (i:=i) by17
 have hcq:=enCs_get hxq
 replace hcq:(enCs l)[i]?=some [.val (.string qb),.val (.slice none 0 0),.val (.slice none 0 0),.val (.int .i64 qwk),.val (.string qws),.val (.int .i64 qwn),.seq 4 (Ty.cellss qwl),.val (.bool false)]:=hcq
 refine Yh [0,1,2,3,4,5,6,7,8,9,10,11,12,13,14,15] [14] [[],[],[],[1,2],[1,2,3],[1,2,3,4],[],[],[6,7],[6,7,8],[6,7,8,9],[6,7,8,9,10],[1,2,3,4,5,6,7,8,9,10,11],[1,2,3,4,5,6,7,8,9,10,11,12],[0,1,2,3,4,5,6,7,8,9,10,11,12,13],[0,1,2,3,4,5,6,7,8,9,10,11,12,13,14]] Yx U ?_
 refine QbM ?_
 refine Qw ?_
 refine Qg6 ?_
 refine QaL ?_
 refine QbM ?_
 refine Qg6 ?_
 refine Qcm ?_
 refine Qcm ?_
 refine QbT ?_
 refine Zi 23 (none) (i:=12) U U U U U (Zm (ns:=[0,2]) (xs:=[.tmp 16,.tmp 22]) U tz_46 U tfl_46 U U U U ⟨U,U⟩) ?_
 refine Zi 24 (none) (i:=13) U U U U U (Zf (xs:=[.tmp 23]) el_27 U U U U U U (Wc U) ⟨U,U⟩) ?_
 refine Yc 0 (i:=14) U U U U U (Zv (i:=0) el_27 U U U U (.seq _ _) by7 (fun u25=>⟨_,U,?_⟩))
 refine QZ ?_
 show AGo _ _ _ _ _ _ _
 refine QcS ?_
 exact ⟨(i+1,out++[Cb.plain ⟨qb,qvs,⟨qwk,qws,qwn,qwl⟩,qe⟩],u25),⟨by show i+1≤l.length;omega,by show out++[_]=_;rw [Yd hxq,List.map_append,← ho];rfl⟩,by show l.length - (i+1)<l.length - i;omega,Xy U (Le.own_lessA (by rw [Cb.cellss_app];exact Less.app (Less.refl _) by1 )) by5,by4⟩
theorem rOne_c (s:ByteArray) (t:Ty):PCall Tryz.prog 204 [.val (.string s),.agg t.cells] (.seq 8 (enCs [.mk s [] t co0])):=by
 obtain ⟨k,ts,n,ks⟩:=t
 refine Zc Tryz.func204 U (by kernel_rfl) U (Wc U) ?_
 refine Qds ?_
 refine QK ?_
 refine Q7 ?_
 refine Zb 7 U U U (Zm (ns:=[2]) (xs:=[.tmp 6]) U tz_185 U tfl_185 U U U U (Zb 8 U U U (Zm (ns:=[0,1]) (xs:=[.tmp 5,.tmp 7]) U tz_249 U tfl_249 U U U U (Zb 9 U U U (Zf (xs:=[.tmp 8]) el_226 U U U U U U (Wc U) ?_)))))
 refine Qo ?_
 exact Ze U U (Xu _) (Xp _) ⟨U,U⟩
theorem rBase_c (t:Ty):BCall Tryz.prog 205 [.agg t.cells,.val (.string kIntT)] (t.eqC tInt=true):=by
 rw [show (t.eqC tInt=true)=(t=tInt) from propext (Ty.eqC_iff _ _)]
 obtain ⟨k,s,n,ks⟩:=t
 have hlk:=Ty.cellss_len ks
 have h0:ks.length=0↔ks=[]:=List.length_eq_zero_iff
 rw [show (Ty.mk k s n ks=tInt)=(k=3∧s=kIntT∧n=0∧ks.length=0) from propext (by rw [h0];simp [tInt])]
 refine Zc Tryz.func205 U (by kernel_rfl) U (Wc U) ?_
 refine Qds ?_
 refine QG ?_
 refine Zw 4 (k=3∧s=kIntT∧n=0∧ks.length=0) ?_ _ _ U ?_
 ·skip
  refine QaE ?_;intro c7 h7
  refine Qb ?_
  obtain ⟨rfl,g7⟩|⟨rfl,g7⟩:=Za h7
  ·skip
   refine Qx ?_
   refine Qv ?_
   refine Qb1 ?_
   refine Qc3 ?_
   refine Wa U ?_ by6 by4
   first|(simp_all;done)|(simp_all;omega)|grind
  skip
  refine Qdu ?_
  refine Qbf ?_;intro c12 h12
  refine Qv ?_
  obtain ⟨rfl,g12⟩|⟨rfl,g12⟩:=Za h12
  ·skip
   refine Qb1 ?_
   refine Qc3 ?_
   refine Wa U ?_ by6 by4
   first|(simp_all;done)|(simp_all;omega)|grind
  skip
  refine QA ?_
  refine Qak ?_;intro c17 h17
  refine Qv ?_
  obtain ⟨rfl,g17⟩|⟨rfl,g17⟩:=Za h17
  ·skip
   refine Qc3 ?_
   refine Wa U ?_ by6 by4
   first|(simp_all;done)|(simp_all;omega)|grind
  skip
  refine QA ?_
  refine QbC ?_;intro n22
  refine Qak ?_;intro c23 h23
  refine QC ?_
  refine Wa U ?_ by6 by4
  first|(simp_all;done)|(simp_all;omega)|grind
 intro c4 h4
 refine QI ?_
 exact Ze U U (Xu _) (Xp _) ⟨⟨_,h4,U⟩,U⟩
def chainF (l:List Ty) (t:Ty):Ty:=l.foldr (fun a b=>.mk 3 arrow 0 [a,b]) t
theorem rConTy_none (v:En) (s:ByteArray) (ts:List Ty) (h:conC s v.da=none):PCall Tryz.prog 206 [.agg v.cells,.val (.string s),.seq 4 (Ty.cellss ts)] (.tup [.agg tyZ.cells,.val (.bool false)]):=by
 have HC:=rCon_c v s
 rw [conJ_none h] at HC
 unfold conU at HC
 obtain ⟨da,cl,ins⟩:=v
 simp only [En.cells] at *
 refine Qg7 ?_
 refine Qar ?_
 refine QE ?_;intro b6
 refine Qdw ?_
 refine Qb ?_
 refine Zb 16 U U U (Zd (xs:=[.tmp 14,.tmp 15]) U U (HC) by2 ?_)
 refine Qa0 ?_
 refine Q1 ?_
 refine Zw 32 (True) ?_ _ _ U ?_
 ·skip
  refine Qb ?_
  refine Qg ?_;intro c20 h20
  refine Qb ?_
  obtain ⟨rfl,g20⟩|⟨rfl,g20⟩:=Za h20
  ·exact absurd g20 by18
  skip
  refine Qx ?_
  refine Qcz ?_
  refine Wa U ?_ by6 by4
  clear HC;first|(simp_all;done)|grind
 intro c32 h32
 refine Qc ?_
 obtain ⟨rfl,g32⟩|⟨rfl,g32⟩:=Za h32
 ·exact absurd trivial g32
 refine Qc7 ?_
 exact Zy (i:=0) U U U U Zx U by1 (Xp _) ⟨U,U⟩
theorem rConTy_some (v:En) (s:ByteArray) (ts:List Ty) (d:Da) (c:Cn) (h:conC s v.da=some (d,c)) (hv:∀ t∈c.ts,t.wd) (htl:ts.length≤1000000):PCall Tryz.prog 206 [.agg v.cells,.val (.string s),.seq 4 (Ty.cellss ts)] (if d.ps.length=ts.length then .tup [.agg (chainF (c.ts.map (Ty.turn (putO d.ps ts))) (.mk 3 d.s 0 ts)).cells,.val (.bool true)] else .tup [.agg tyZ.cells,.val (.bool false)]):=by
 have HC:=rCon_c v s
 obtain ⟨i,j,h1,hi,hj⟩:=conJ_some (i0:=0) h
 rw [h1,show 0+i=i by omega] at HC
 unfold conU at HC
 obtain ⟨ds,dps,dcs,ddv,dp⟩:=d
 obtain ⟨cs,cts,cp⟩:=c
 replace hj:dcs[j]?=some (.mk cs cts cp):=hj
 replace hv:∀ t∈cts,t.wd:=hv
 have HP:=fun (hl:dps.length=ts.length) t (ht:t∈cts)=>rPutW_c dps by17 ts t.size t (Nat.le_refl _) (hv t ht)
 show PCall Tryz.prog _ _ (if dps.length=ts.length then .tup [.agg (chainF (cts.map (Ty.turn (putO dps ts))) (.mk 3 ds 0 ts)).cells,.val (.bool true)] else .tup [.agg tyZ.cells,.val (.bool false)])
 obtain ⟨r,hr⟩:∃ r,(if dps.length=ts.length then AV.tup [.agg (chainF (cts.map (Ty.turn (putO dps ts))) (.mk 3 ds 0 ts)).cells,.val (.bool true)] else .tup [.agg tyZ.cells,.val (.bool false)])=r:=⟨_,rfl⟩
 rw [hr]
 generalize hF:Ty.turn (putO dps ts)=F at *
 have hci:=Da.cellss_get hi
 have hcj:=Cn.cellss_get hj
 have hlp:=Ya dps
 have hlt:=Ty.cellss_len ts
 have hlc:=Ty.cellss_len cts
 clear h h1 hi hj hF
 obtain ⟨da,cl,ins⟩:=v
 simp only [En.cells,En.da] at *
 refine Qg7 ?_
 refine Qar ?_
 refine QE ?_;intro b6
 refine Qdw ?_
 refine Qb ?_
 refine Zb 16 U U U (Zd (xs:=[.tmp 14,.tmp 15]) U U (HC) by2 ?_)
 refine Qa0 ?_
 refine Q1 ?_
 refine Zw 32 (¬ dps.length=ts.length) ?_ _ _ U ?_
 ·skip
  refine Qb ?_
  refine Qg ?_;intro c20 h20
  refine Qb ?_
  obtain ⟨rfl,g20⟩|⟨rfl,g20⟩:=Za h20
  ·skip
   refine Qdu ?_
   refine Zo 25 U U U U U (Zh U te_37 U (.seq _ _) U U (hci) ?_)
   refine QA ?_
   refine Qfx ?_;intro n28
   refine Qf ?_
   refine QbC ?_;intro n30
   refine Qax ?_;intro c31 h31
   refine Qm ?_
   refine Wa U ?_ by6 by4
   clear HC HP;first|(simp_all;done)|(simp_all;omega)|grind
  omega
 intro c32 h32
 refine Qc ?_
 obtain ⟨rfl,g32⟩|⟨rfl,g32⟩:=Za h32
 ·refine Qp ?_
  have hpl:=Classical.not_not.1 g32
  rw [if_pos hpl] at hr
  replace HP:=HP hpl
  refine Qa5 ?_
  refine QfK ?_
  refine QT ?_
  refine Zb 41 U U U (Zm (ns:=[0,1,3]) (xs:=[.const (.int .i64 3),.tmp 39,.tmp 40]) U tz_24 U tfl_24 U U U U ?_)
  refine QE ?_;intro b10
  refine QO ?_
  refine Qu ?_
  refine QT ?_
  refine Qg8 ?_
  refine QT ?_
  refine Qg9 ?_
  refine Qd ?_
  refine Q1 ?_
  refine c_lens (t:=11) U (.seq _ _) (fun hmax=>?_)
  refine Qh ?_
  refine QY ?_;intro n53
  refine Qay ?_
  refine Qab ?_
  apply Yl (rg [(0,2),(4,2),(9,1),(12,12),(25,48)]) (σ:=Nat × Ty) (fun zz=>match zz with|(n,C)=>[(12,.val (.int .i64 ((n:Int) - 1)))]) (fun zz=>match zz with|(n,C)=>[.loc b10 C.cells,.loc b6 zTyW]) (fun zz=>match zz with|(n,C)=>n≤cts.length∧C=chainF ((cts.drop n).map F) (.mk 3 ds 0 ts)) (fun zz=>match zz with|(n,C)=>n) ((cts.length,.mk 3 ds 0 ts))
  ·repeat' (first|exact Wf|apply Wd rfl|apply We rfl)
  ·exact ⟨Nat.le_refl _,by simp [chainF]⟩
  ·exact Xy U (Le.ieq by17) by5
  ·exact by4
  rintro ⟨n,⟨ck,cs2,cn,ck2⟩⟩ hI
  try dsimp only [List.cons_append,List.nil_append] at hI ⊢
  obtain ⟨hn,hC⟩:=hI
  refine QS ?_
  refine QbS ?_;intro c56 h56
  refine Qa ?_
  obtain ⟨rfl,g56⟩|⟨rfl,g56⟩:=Za h56
  ·refine Qa3 ?_
   refine Q9 ?_
   refine Qaa ?_
   obtain rfl:n=0:=by omega
   rw [List.drop_zero] at hC
   rw [← hC] at hr
   subst hr
   exact Zy (i:=1) U U U U Zx U by1 (Xp _) ⟨U,U⟩
  refine QaV ?_
  obtain ⟨n,rfl⟩:∃ m,n=m+1:=⟨n - 1,by omega⟩
  rw [show (((n+1:Nat):Int) - 1)=(n:Int) by omega]
  obtain ⟨⟨uk,us,un,ul⟩,hu⟩:=Zj (l:=cts) (i:=n) by17
  have hcu:=Ty.cellss_get hu
  have HPu:=HP _ (Wg hu)
  obtain ⟨⟨fk,fs,fn,fl⟩,hfu⟩:∃ y,F ⟨uk,us,un,ul⟩=y:=⟨_,rfl⟩
  rw [hfu] at HPu
  have HU:=rFun_c ⟨fk,fs,fn,fl⟩ ⟨ck,cs2,cn,ck2⟩
  refine Yh [0,1,2,3,4,5,6,7,8,9,10,11,12,13,14] [14] [[],[0],[],[0,1,2],[0,1,2,3],[0,1,2,3,4],[],[],[],[7,8],[7,8,9],[0,1,2,3,4,5,6,7,8,9,10],[],[0,1,2,3,4,5,6,7,8,9,10,11,12],[0,1,2,3,4,5,6,7,8,9,10,11,12,13]] Yx U ?_
  refine QaL ?_
  refine Qw ?_
  refine Zi 62 (none) (i:=3) U U U U U (Zh U te_37 U (.seq _ _) U U (by first|exact hci|exact hcu) ⟨U,U⟩) ?_
  refine QaL ?_
  refine QbM ?_
  refine Qw ?_
  refine Zi 68 (none) (i:=9) U U U U U (Zh U te_22 U (.seq _ _) U U (by first|exact hci|exact hcu) ⟨U,U⟩) ?_
  refine QbT ?_
  refine Zi 70 (none) (i:=11) U U U U U (Zd (xs:=[.tmp 64,.tmp 65,.tmp 69]) U U (HPu) by2 ⟨U,U⟩) ?_
  refine QdP ?_
  refine Zi 72 (none) (i:=13) U U U U U (Zd (xs:=[.tmp 70,.tmp 71]) U U (HU) by2 ⟨U,U⟩) ?_
  refine Qef ?_
  show AGo _ _ _ _ _ _ _
  refine go_blk ?_
  refine Qc ?_
  refine Qh ?_
  refine Qay ?_
  refine QbE ?_
  exact ⟨(n,.mk 3 arrow 0 [⟨fk,fs,fn,fl⟩,⟨ck,cs2,cn,ck2⟩]),⟨by show n≤cts.length;omega,by rw [hC,Zz hu,List.map_cons,hfu];rfl⟩,by show n<n+1;omega,by5,by4⟩
 refine Qc7 ?_
 rw [if_neg g32] at hr
 subst hr
 exact Zy (i:=0) U U U U Zx U by1 (Xp _) ⟨U,U⟩
def endP:Option (List Cb)→Bool→List Cb × Bool
 | none,_=>([],false)
 | some l,b=>(l,b)
def patR (v:En):Pa→Ty→List Cb × Bool
 | .mk k s _ ks _,t=>if k=1 then ([],true) else if k=2 then ([.mk s [] t co0],true) else if k=4 then ([],t.eqC tInt)
  else match conC s v.da with
   | none=>([],false)
   | some (d,c)=>if t.kind≠3∨d.ps.length≠t.kids.length∨c.ts.length≠ks.length then ([],false) else endP (patCs v ks (c.ts.map (Ty.turn (putO d.ps t.kids)))) (sameB d.s t.name)
theorem patR_patC (v:En) (p:Pa) (t:Ty):(patR v p t).2=(patC v p t).isSome∧∀ l,patC v p t=some l→(patR v p t).1=l:=by
 obtain ⟨k,s,n,ks,pp⟩:=p
 rw [patR,patC]
 by_cases h1:k=1
 ·rw [if_pos h1,if_pos h1];exact ⟨rfl,fun l h=>by cases h;rfl⟩
 rw [if_neg h1,if_neg h1]
 by_cases h2:k=2
 ·rw [if_pos h2,if_pos h2];exact ⟨rfl,fun l h=>by cases h;rfl⟩
 rw [if_neg h2,if_neg h2]
 by_cases h4:k=4
 ·rw [if_pos h4,if_pos h4]
  cases ht:t.eqC tInt with
  | true=>rw [if_pos rfl];exact ⟨rfl,fun l h=>by cases h;rfl⟩
  | false=>rw [if_neg by18];exact ⟨rfl,fun l h=>by cases h⟩
 rw [if_neg h4,if_neg h4]
 cases hc:conC s v.da with
 | none=>exact ⟨rfl,fun l h=>by cases h⟩
 | some dc =>
  obtain ⟨d,c⟩:=dc
  show (if t.kind≠3∨d.ps.length≠t.kids.length∨c.ts.length≠ks.length then (([],false):List Cb × Bool) else endP (patCs v ks (c.ts.map (Ty.turn (putO d.ps t.kids)))) (sameB d.s t.name)).2=(if t.kind≠3∨t.name≠d.s∨t.kids.length≠d.ps.length∨ks.length≠c.ts.length then none else patCs v ks (c.ts.map (Ty.turn (putO d.ps t.kids)))).isSome∧∀ l,(if t.kind≠3∨t.name≠d.s∨t.kids.length≠d.ps.length∨ks.length≠c.ts.length then none else patCs v ks (c.ts.map (Ty.turn (putO d.ps t.kids))))=some l→(if t.kind≠3∨d.ps.length≠t.kids.length∨c.ts.length≠ks.length then (([],false):List Cb × Bool) else endP (patCs v ks (c.ts.map (Ty.turn (putO d.ps t.kids)))) (sameB d.s t.name)).1=l
  by_cases q:t.kind≠3∨d.ps.length≠t.kids.length∨c.ts.length≠ks.length
  ·rw [if_pos q,if_pos (by rcases q with q|q|q;exact .inl q;exact .inr (.inr (.inl (Ne.symm q)));exact .inr (.inr (.inr (Ne.symm q))))]
   exact ⟨U,fun l h=>by cases h⟩
  rw [if_neg q]
  have q1:t.kind=3:=Classical.not_not.1 fun h=>q (.inl h)
  have q2:d.ps.length=t.kids.length:=Classical.not_not.1 fun h=>q (.inr (.inl h))
  have q3:c.ts.length=ks.length:=Classical.not_not.1 fun h=>q (.inr (.inr h))
  by_cases q4:t.name=d.s
  ·rw [if_neg (by rintro (h|h|h|h);exact h q1;exact h q4;exact h q2.symm;exact h q3.symm)]
   cases patCs v ks (c.ts.map (Ty.turn (putO d.ps t.kids))) with
   | none=>exact ⟨rfl,fun l h=>by cases h⟩
   | some l=>exact ⟨Yt.2 q4.symm,fun l h=>by cases h;rfl⟩
  rw [if_pos (.inr (.inl q4))]
  refine ⟨?_,fun l h=>by cases h⟩
  cases patCs v ks (c.ts.map (Ty.turn (putO d.ps t.kids))) with
  | none=>rfl
  | some l =>
   cases hs:sameB d.s t.name with
   | true=>exact absurd (Yt.1 hs).symm q4
   | false=>rfl
def wpC (v:En):List AV:=v.cells++[.val (.slice none 0 0),.val (.slice none 0 0),.val (.slice none 0 0)]
abbrev PatC (v:En) (p:Pa) (t:Ty) (r:List Cb × Bool):Prop:=PCall Tryz.prog 175 [.agg (wpC v),.agg p.cells,.agg t.cells] (.tup [.seq 8 (enCs r.1),.val (.bool r.2)])
theorem rPat_1 (v:En) (s:ByteArray) (n:Int) (ks:List Pa) (pp:Int) (t:Ty):PatC v (.mk 1 s n ks pp) t ([],true):=by
 obtain ⟨tk,tn,tm,tl⟩:=t
 obtain ⟨da,cl,ins⟩:=v
 unfold PatC wpC at *
 simp only [En.cells,List.cons_append,List.nil_append] at *
 refine QeD ?_
 refine Qbj ?_
 refine QcN ?_
 refine QcE ?_
 refine Qbi ?_
 refine QaE ?_;intro c19 h19
 refine Qa ?_
 obtain ⟨rfl,g19⟩|⟨rfl,g19⟩:=Za h19
 ·exact absurd U g19
 refine QaZ ?_
 exact Yn U U U (Le.tup (Xw (Xx 8) (Xv _))) (Xp _) ⟨U,U⟩
theorem rPat_2 (v:En) (s:ByteArray) (n:Int) (ks:List Pa) (pp:Int) (t:Ty):PatC v (.mk 2 s n ks pp) t ([.mk s [] t co0],true):=by
 have HO:=rOne_c s t
 obtain ⟨tk,tn,tm,tl⟩:=t
 obtain ⟨da,cl,ins⟩:=v
 unfold PatC wpC at *
 simp only [En.cells,List.cons_append,List.nil_append] at *
 refine QeD ?_
 refine Qbj ?_
 refine QcN ?_
 refine QcE ?_
 refine Qbi ?_
 refine QaE ?_;intro c19 h19
 refine Qa ?_
 obtain ⟨rfl,g19⟩|⟨rfl,g19⟩:=Za h19
 ·refine QaC ?_
  refine QaE ?_;intro c22 h22
  refine Qa ?_
  obtain ⟨rfl,g22⟩|⟨rfl,g22⟩:=Za h22
  ·exact absurd U g22
  refine Qq ?_
  refine Qd ?_
  refine Q7 ?_
  refine Zb 26 U U U (Zd (xs:=[.tmp 24,.tmp 25]) U U (HO) by2 ?_)
  refine Qac ?_
  exact Yn U U U (Xu _) (Xp _) ⟨U,U⟩
 omega
theorem rPat_4 (v:En) (s:ByteArray) (n:Int) (ks:List Pa) (pp:Int) (t:Ty):PatC v (.mk 4 s n ks pp) t ([],t.eqC tInt):=by
 have HB:=rBase_c t
 generalize t.eqC tInt=w at *
 obtain ⟨tk,tn,tm,tl⟩:=t
 obtain ⟨da,cl,ins⟩:=v
 unfold PatC wpC at *
 simp only [En.cells,List.cons_append,List.nil_append] at *
 refine QeD ?_
 refine Qbj ?_
 refine QcN ?_
 refine QcE ?_
 refine Qbi ?_
 refine QaE ?_;intro c19 h19
 refine Qa ?_
 obtain ⟨rfl,g19⟩|⟨rfl,g19⟩:=Za h19
 ·refine QaC ?_
  refine QaE ?_;intro c22 h22
  refine Qa ?_
  obtain ⟨rfl,g22⟩|⟨rfl,g22⟩:=Za h22
  ·refine QaC ?_
   refine QaE ?_;intro c29 h29
   refine Qa ?_
   obtain ⟨rfl,g29⟩|⟨rfl,g29⟩:=Za h29
   ·exact absurd U g29
   refine Qq ?_
   refine Q7 ?_
   refine Zb 31 U U U (Zg (xs:=[.tmp 30,.const (.string ⟨#[73,110,116]⟩)]) U U (HB) by2 ?_);intro c31 h31
   refine Qac ?_
   exact Yn U U U (Le.tup (Xw (Xx 8) (Xw (Le.beq (by cases w <;> simp_all)) (Xv _)))) (Xp _) ⟨U,U⟩
  omega
 omega
theorem rPat_none (v:En) (k:Int) (s:ByteArray) (n:Int) (ks:List Pa) (pp:Int) (t:Ty) (hk:¬ k=1∧¬ k=2∧¬ k=4) (tyv:Ty) (HT:PCall Tryz.prog 206 [.agg v.cells,.val (.string s),.seq 4 (Ty.cellss t.kids)] (.tup [.agg tyv.cells,.val (.bool false)])):PatC v (.mk k s n ks pp) t ([],false):=by
 obtain ⟨k1,k2,k4⟩:=hk
 obtain ⟨yk,yn,ym,yl⟩:=tyv
 obtain ⟨tk,tn,tm,tl⟩:=t
 obtain ⟨da,cl,ins⟩:=v
 unfold PatC wpC at *
 simp only [En.cells,Ty.kids,List.cons_append,List.nil_append] at *
 refine QeD ?_
 refine Qbj ?_
 refine QcN ?_
 refine QcE ?_
 refine Qbi ?_
 refine QaE ?_;intro c19 h19
 refine Qa ?_
 obtain ⟨rfl,g19⟩|⟨rfl,g19⟩:=Za h19
 ·refine QaC ?_
  refine QaE ?_;intro c22 h22
  refine Qa ?_
  obtain ⟨rfl,g22⟩|⟨rfl,g22⟩:=Za h22
  ·refine QaC ?_
   refine QaE ?_;intro c29 h29
   refine Qa ?_
   obtain ⟨rfl,g29⟩|⟨rfl,g29⟩:=Za h29
   ·refine QV ?_
    refine Qc9 ?_
    refine Qd ?_
    refine Zb 39 U U U (Zd (xs:=[.tmp 34,.tmp 36,.tmp 38]) U U (HT) by2 ?_)
    refine QdA ?_;intro b8
    refine QO ?_
    refine Q1 ?_
    refine Zw 48 (True) ?_ _ _ U ?_
    ·skip
     refine Qbx ?_;intro c43 h43
     try replace h43:=Ym h43 h41
     refine Qb ?_
     obtain ⟨rfl,g43⟩|⟨rfl,g43⟩:=Za h43
     ·skip
      refine QA ?_
      refine Qax ?_;intro c47 h47
      refine Qm ?_
      refine Wa U ?_ by6 by4
      clear HT;first|(simp_all;done)|grind
     skip
     refine Qc5 ?_
     refine Wa U ?_ by6 by4
     clear HT;first|(simp_all;done)|grind
    intro c48 h48
    refine Qc ?_
    obtain ⟨rfl,g48⟩|⟨rfl,g48⟩:=Za h48
    ·exact absurd trivial g48
    refine QaZ ?_
    exact Yn U U U (Le.tup (Xw (Xx 8) (Xv _))) (Xp _) ⟨U,U⟩
   exact absurd g29 k4
  exact absurd g22 k2
 exact absurd g19 k1
end Go.Proofs.YteepjjgooplljaaGreat
