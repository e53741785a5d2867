/- CoreMore (where what it reads is of bulk at most 1048576): a program that is right is so with a right bind more, of another name, and with its binds the other way round. -/
import Derived.Test.YteepjjgooplljaaGreatKLZMore6
import Derived.Test.YteepjjgooplljaaGreatChecked
import Derived.Test.YteepjjgooplljaaGreatRows
set_option maxRecDepth 100000
set_option maxHeartbeats 4000000
namespace Go.Proofs.YteepjjgooplljaaGreat
open Go.RowKit
theorem paramsL_go {L:List Tok} {f:Nat} {p:PS} {acc:List ByteArray} (h:(nxt L p).k=1):paramsL L (f+1) p acc=paramsL L f (takeP L p 1 kE).2 (acc++[(takeP L p 1 kE).1.t]):=by rw [paramsL,if_pos h]
theorem paramsL_end {L:List Tok} {f:Nat} {p:PS} {acc:List ByteArray} (h:¬ (nxt L p).k=1):paramsL L f p acc=(acc,p):=by
 cases f with
 | zero=>rfl
 | succ f=>rw [paramsL,if_neg h]
theorem consL_err {L:List Tok} {f:Nat} {p:PS} {acc:List Cn} (h:p.e≠0):consL L f p acc=(acc,p):=by
 cases f with
 | zero=>rfl
 | succ f=>rw [consL,if_pos h]
abbrev zDa:List AV:=[.val (.string kE),.val (.slice none 0 0),.val (.slice none 0 0),.val (.slice none 0 0),.val (.int .i64 0)]
theorem data_c (b:Nat) (L:List Tok) (hL:L.length≤100000) (p:PS) (k:POk L 302 p):MCall Tryz.prog 56 [.ptr b 0] (.loc b (psC L p)) (.agg (dataP L p).1.cells) (.loc b (psC L (dataP L p).2)):=by
 have H1:=take_c b L hL p k.1 2 kE
 have k1:=(Zn (kind:=2) (s:=kE) by16 k).ok k
 obtain ⟨r,hr⟩:∃ r,dataP L p=r:=⟨_,rfl⟩
 rw [hr]
 unfold dataP at hr
 simp only [] at hr
 obtain ⟨⟨⟨tk,tt,tn,ta⟩,p1⟩,e1⟩:∃ r,takeP L p 2 kE=r:=⟨_,rfl⟩
 rw [e1] at H1 k1 hr
 simp only [Tok.av] at H1 k1 hr
 have k2:=(paramsL_adv (L.length+1) p1 [] k1).ok k1
 obtain ⟨⟨ps,p2⟩,e2⟩:∃ r,paramsL L (L.length+1) p1 []=r:=⟨_,rfl⟩
 rw [e2] at k2 hr
 simp only [] at k2 hr
 have H3:=take_c b L hL p2 k2.1 7 kEq
 have k3:=(Zn (kind:=7) (s:=kEq) by16 k2).ok k2
 obtain ⟨⟨u3,p3⟩,e3⟩:∃ r,takeP L p2 7 kEq=r:=⟨_,rfl⟩
 rw [e3] at H3 k3 hr
 simp only [] at H3 k3 hr
 have k4:=(consL_adv (L.length+1) p3 [] k3).ok k3
 obtain ⟨⟨cl,p4⟩,e4⟩:∃ r,consL L (L.length+1) p3 []=r:=⟨_,rfl⟩
 rw [e4] at k4 hr
 simp only [] at k4 hr
 unfold derivP at hr
 refine Zc Tryz.func56 U (by kernel_rfl) U (Wc U) ?_
 refine Qe ?_
 refine Qd1 ?_;intro b2
 refine QB ?_
 refine Zb 9 U U U (Zl (xs:=[.tmp 8,.const (.int .i64 2),.const (.string ⟨#[]⟩)]) (i:=1) U U U (H1) by2 ?_)
 refine QR ?_;intro b3
 refine Qaw ?_
 refine Qbw ?_
 refine Qn ?_
 refine Zb 14 U U U (Zm (ns:=[0,4]) (xs:=[.tmp 11,.tmp 13]) U tz_114 U tfl_114 U U U U ?_)
 refine Qd1 ?_;intro b4
 refine Qee ?_
 refine QcG ?_
 refine Qcs ?_
 apply Yl (rg [(1,1),(3,1),(8,19),(28,1),(64,1),(69,1)]) (σ:=PS × Nat × List ByteArray × Value) (fun zz=>match zz with|(q,f,acc,u)=>[]) (fun zz=>match zz with|(q,f,acc,u)=>[.loc b4 [.val (.string tt),.own u 1 (strs acc),.val (.slice none 0 0),.val (.slice none 0 0),.val (.int .i64 ta)],.loc b3 (Tok.mk tk tt tn ta).av,.loc b2 zDa,.loc b (psC L q),.own 9 1 u]) (fun zz=>match zz with|(q,f,acc,u)=>POk L 302 q∧L.length - q.at_<f∧acc.length≤q.at_∧paramsL L f q acc=(ps,p2)) (fun zz=>match zz with|(q,f,acc,u)=>f) ((p1,L.length+1,[],.slice none 0 0))
 ·repeat' (first|exact Wf|apply Wd rfl|apply We rfl)
 ·exact ⟨k1,by omega,Nat.zero_le _,e2⟩
 ·exact by5
 ·exact (Xs _ (Xw (Xu _) (Xw (Le.nilOwn 1) (Xv _))) (Xq _ (Xt U)))
 rintro ⟨q,f,acc,u⟩ hI
 try dsimp only [List.cons_append,List.nil_append] at hI ⊢
 obtain ⟨i1,i2,i3,hu⟩:=hI
 have hq1:=i1.1
 have hle:(strs acc).length≤200000:=by rw [Ya];omega
 have HN:=next_c b L q
 have hkn:(nxt L q).k=1→q.at_<L.length:=fun e=>(Xn by17).2
 have hgo:=fun f=>paramsL_go (L:=L) (f:=f) (p:=q) (acc:=acc)
 have hend:=paramsL_end (L:=L) (f:=f) (p:=q) (acc:=acc)
 have htk:=fun h:(nxt L q).k=1=>take_k (s:=kE) h by16 by16
 obtain ⟨⟨qk,qt,qn,qa⟩,hqt⟩:∃ t,nxt L q=t:=⟨_,rfl⟩
 rw [hqt] at HN hkn hgo hend htk
 simp only [Tok.av] at HN hkn hgo hend htk
 refine QS ?_
 refine Zb 16 U U U (Yq (xs:=[.tmp 15]) [3] U U U (HN) by2 ?_)
 refine Qd5 ?_
 refine Qz ?_;intro c18 h18
 refine Qa ?_
 obtain ⟨rfl,g18⟩|⟨rfl,g18⟩:=Za h18
 ·refine Qag ?_
  rw [hend g18] at hu
  simp only [Prod.mk.injEq] at hu
  obtain ⟨rfl,rfl⟩:=hu
  refine Qh ?_
  refine Zb 28 U U U (Zl (xs:=[.tmp 27,.const (.int .i64 7),.const (.string ⟨#[61]⟩)]) (i:=3) U U U (H3) by2 ?_)
  refine Qu ?_
  refine Qcc ?_
  refine Yp 163 3 ?_
  apply Yl (rg [(1,1),(3,1),(5,56),(64,1),(69,1)]) (σ:=PS × Nat × List Cn × Value × Bool) (fun zz=>match zz with|(q,f,cs,w,mo)=>[(5,.val (.bool mo))]) (fun zz=>match zz with|(q,f,cs,w,mo)=>[.loc b4 [.val (.string tt),.seq 1 (strs acc),.own w 3 (Cn.cellss cs),.val (.slice none 0 0),.val (.int .i64 ta)],.loc b3 (Tok.mk tk tt tn ta).av,.loc b2 zDa,.loc b (psC L q),.own 163 3 w]) (fun zz=>match zz with|(q,f,cs,w,mo)=>POk L 302 q∧L.length - q.at_<f∧(mo=true→cs.length≤q.at_)∧(if mo=true then consL L f q cs else (cs,q))=(cl,p4)) (fun zz=>match zz with|(q,f,cs,w,mo)=>2 * f+(if mo=true then 1 else 0)) ((p3,L.length+1,[],.slice none 0 0,true))
  ·repeat' (first|exact Wf|apply Wd rfl|apply We rfl)
  ·exact ⟨k3,by omega,fun _=>Nat.zero_le _,e4⟩
  ·exact by5
  ·exact (Xs _ (Xw (Xu _) (Xw (Le.own_seq U) (Xw (Le.nilOwn 3) (Xv _)))) (Xq _ (Xq _ (Xq _ (Xr _ (Xo _))))))
  rintro ⟨q,f,cs,w,mo⟩ hI
  try dsimp only [List.cons_append,List.nil_append] at hI ⊢
  obtain ⟨i1,i2,i3,hu⟩:=hI
  have hq1:=i1.1
  refine QaJ ?_
  refine Zw 36 (mo=true∧q.e=0) ?_ _ _ U ?_
  ·skip
   refine Qai ?_
   have h30:(mo=true↔mo=true):=Iff.rfl
   obtain ⟨rfl,g30⟩|⟨rfl,g30⟩:=Za h30
   ·skip
    refine QaH ?_
    refine Wa U ?_ by6 by4
    simp_all;done
   skip
   refine Qf ?_
   refine Qf5 ?_
   refine Qba ?_
   refine QfI ?_
   refine Qak ?_;intro c35 h35
   refine Qm ?_
   refine Wa U ?_ by6 by4
   simp_all;done
  intro c36 h36
  refine Qc ?_
  obtain ⟨rfl,g36⟩|⟨rfl,g36⟩:=Za h36
  ·refine Qbs ?_
   have hu2:(cs,q)=(cl,p4):=by
    cases mo with
    | false=>exact hu
    | true=>rw [if_pos rfl,consL_err (fun e=>g36 ⟨rfl,e⟩)] at hu;exact hu
   simp only [Prod.mk.injEq] at hu2
   obtain ⟨rfl,rfl⟩:=hu2
   refine Qh ?_
   refine Zb 62 U U U (op_mayc (xs:=[.tmp 61,.const (.string ⟨#[100,101,114,105,118,105,110,103]⟩)]) (i:=3) U U U (may_c b L hL q kDeriv) by2 ?_ ?_)
   ·intro g62
    refine Qa ?_
    refine QM ?_
    have kA:=(Yf k4 g62).ok k4
    have HD1:=take_c b L hL (stepP q) kA.1 7 kLP
    have kB:=(Zn (kind:=7) (s:=kLP) by16 kA).ok kA
    have HD2:=uppers_c b L hL 302 _ kB
    have kC:=(uppers_adv kB).ok kB
    have HD3:=take_c b L hL _ kC.1 7 kRP
    rw [if_pos g62] at hr
    refine Qh ?_
    refine Zb 64 U U U (Zl (xs:=[.tmp 63,.const (.int .i64 7),.const (.string ⟨#[40]⟩)]) (i:=3) U U U (HD1) by2 ?_)
    refine QB ?_
    refine Zb 66 U U U (Zl (xs:=[.tmp 65]) (i:=3) U U U (HD2) by2 ?_)
    refine Qt ?_
    refine Zr U U (Zp (cs':=[_,_,_,_,_]) (i:=0) U ts_44 U U U U U (Wc U) U ?_)
    refine QdB ?_
    refine Zb 69 U U U (Zl (xs:=[.tmp 68,.const (.int .i64 7),.const (.string ⟨#[41]⟩)]) (i:=3) U U U (HD3) by2 ?_)
    refine Qu ?_
    refine Qhp ?_
    refine Qhq ?_
    refine Qr ?_
    first
    |(subst hr;exact Zk (i:=2) rfl rfl rfl ta_114 rfl (Le.agg (Xw (Xu _) (Xw (Xu _) (Xw (Le.own_seq rfl) (Xw (Xu _) (Xv _)))))) (Xr _ (Xr _ (Xr _ (Xq _ (Xp _))))) ⟨rfl,rfl⟩)
    |(rw [if_neg g62] at hr;subst hr;exact Zk (i:=2) rfl rfl rfl ta_114 rfl (Le.agg (Xw (Xu _) (Xw (Xu _) (Xw (Le.own_seq rfl) (Xw (Xx _) (Xv _)))))) (Xr _ (Xr _ (Xr _ (Xq _ (Xp _))))) ⟨rfl,rfl⟩)
   intro g62
   refine Qa ?_
   refine QV ?_
   refine Qhp ?_
   refine Qhq ?_
   refine Qr ?_
   first
   |(subst hr;exact Zk (i:=2) rfl rfl rfl ta_114 rfl (Le.agg (Xw (Xu _) (Xw (Xu _) (Xw (Le.own_seq rfl) (Xw (Xu _) (Xv _)))))) (Xr _ (Xr _ (Xr _ (Xq _ (Xp _))))) ⟨rfl,rfl⟩)
   |(rw [if_neg g62] at hr;subst hr;exact Zk (i:=2) rfl rfl rfl ta_114 rfl (Le.agg (Xw (Xu _) (Xw (Xu _) (Xw (Le.own_seq rfl) (Xw (Xx _) (Xv _)))))) (Xr _ (Xr _ (Xr _ (Xq _ (Xp _))))) ⟨rfl,rfl⟩)
  refine Qdq ?_
  obtain ⟨rfl,hq0⟩:=g36
  have i3:=i3 rfl
  have hle:(Cn.cellss cs).length≤200000:=by rw [Cn.cellss_len];omega
  rw [if_pos rfl] at hu
  obtain ⟨f,rfl⟩:∃ f',f=f'+1:=⟨f - 1,by omega⟩
  rw [consL,if_neg (by rw [hq0];simp)] at hu
  have HP:=take_c b L hL q i1.1 2 kE
  have l1:=(Zn (kind:=2) (s:=kE) by16 i1).ok i1
  have b1:=(Zn (L:=L) (kind:=2) (s:=kE) by16 i1).1
  obtain ⟨z,hz⟩:∃ z,conP L q=z:=⟨_,rfl⟩
  rw [hz] at hu
  unfold conP at hz
  simp only [] at hz
  obtain ⟨⟨⟨ck,ct,cn,ca⟩,q1⟩,f1⟩:∃ r,takeP L q 2 kE=r:=⟨_,rfl⟩
  rw [f1] at HP hz l1 b1
  simp only [Tok.av] at HP hz l1 b1
  have l2:=(typesL_adv Xe (L.length+1) q1 [] l1).ok l1
  have b2':=(typesL_adv Xe (L.length+1) q1 [] l1).1
  obtain ⟨⟨tys,q2⟩,f2⟩:∃ r,typesL L (typeP L) (L.length+1) q1 []=r:=⟨_,rfl⟩
  rw [f2] at l2 b2' hz
  simp only [] at l2 b2' hz
  subst hz
  simp only [] at hu
  have l2a:=l2.1
  refine Qh ?_
  refine Zb 38 U U U (Zl (xs:=[.tmp 37,.const (.int .i64 2),.const (.string ⟨#[]⟩)]) (i:=3) U U U (HP) by2 ?_)
  refine QR ?_;intro b6
  refine Qaw ?_
  refine Qbw ?_
  refine Qn ?_
  refine Zb 43 U U U (Zm (ns:=[0,2]) (xs:=[.tmp 40,.tmp 42]) U tz_163 U tfl_163 U U U U (Zb 7 U U U (Yb (cs':=[_,_,_]) U tz_163 U U ?_)));intro b7
  refine Qgm ?_
  refine QcG ?_
  refine Yp 24 4 ?_
  apply Yl (rg [(1,1),(3,1),(8,21),(44,9),(64,1),(69,1)]) (σ:=PS × Nat × List Ty × Value) (fun zz=>match zz with|(s,g,ac,v)=>[]) (fun zz=>match zz with|(s,g,ac,v)=>[.loc b7 [.val (.string ct),.own v 4 (Ty.cellss ac),.val (.int .i64 ca)],.loc b6 (Tok.mk ck ct cn ca).av,.loc b4 [.val (.string tt),.seq 1 (strs acc),.own w 3 (Cn.cellss cs),.val (.slice none 0 0),.val (.int .i64 ta)],.loc b3 (Tok.mk tk tt tn ta).av,.loc b2 zDa,.loc b (psC L s),.own 163 3 w,.own 24 4 v]) (fun zz=>match zz with|(s,g,ac,v)=>POk L 302 s∧L.length - s.at_<g∧ac.length≤s.at_∧typesL L (typeP L) g s ac=(tys,q2)) (fun zz=>match zz with|(s,g,ac,v)=>g) ((q1,L.length+1,[],.slice none 0 0))
  ·repeat' (first|exact Wf|apply Wd rfl|apply We rfl)
  ·exact ⟨l1,by omega,Nat.zero_le _,f2⟩
  ·exact by5
  ·exact (Xs _ (Xw (Xu _) (Xw (Le.nilOwn 4) (Xv _))) (Xq _ (Xt U)))
  rintro ⟨s,g,ac,v⟩ hI
  try dsimp only [List.cons_append,List.nil_append] at hI ⊢
  obtain ⟨j1,j2,j3,hv⟩:=hI
  have hs1:=j1.1
  have hlt:(Ty.cellss ac).length≤200000:=by rw [Ty.cellss_len];omega
  refine QS ?_
  refine Zb 45 U U U (op_callkb (xs:=[.tmp 44,.const (.int .i64 0)]) [5] U U U (starts_c b L s 0) by2 ?_);intro c45 h45
  refine Qa ?_
  obtain ⟨rfl,g45⟩|⟨rfl,g45⟩:=Za h45
  ·refine Qag ?_
   rw [typesL_end g45] at hv
   simp only [Prod.mk.injEq] at hv
   obtain ⟨rfl,rfl⟩:=hv
   refine c_le (SLe.refl _) (Xs _ (Xw (Xu _) (Xw (Le.own_seq U) (Xv _))) (Xo _)) ?_
   refine Qi ?_
   refine Qb2 ?_
   refine Zb 55 U U U (Zs (cs':=[_,_,_]) (i:=0) U ta_163 U U U U (Zb 56 U U U (Zf (xs:=[.tmp 55]) el_112 U U U U U U (Wc U) (Zb 57 U U U (Zv (i:=6) el_112 U U U U (.seq _ _) by7 ?_)))))
   intro u57
   refine Qt ?_
   refine Zr U U (Zp (cs':=[_,_,_,_,_]) (i:=2) U ts_112 U U U U U (Wc U) U ?_)
   refine QdB ?_
   refine Zb 60 U U U (op_mayc (xs:=[.tmp 59,.const (.string ⟨#[124]⟩)]) (i:=5) U U U (may_c b L hL s kBar) by2 ?_ ?_)
   ·intro g60
    refine Qbl ?_
    first
    |(rw [if_pos g60] at hu;have l4:=(Yf l2 g60).ok l2;have l5:=(is_lt g60).2;exact ⟨(stepP s,f,cs++[Cn.mk ct ac ca],u57,true),⟨l4,(by show L.length - (s.at_+1)<f;omega),(fun _=>by show (cs++_).length≤s.at_+1;rw [List.length_append];simp;omega),hu⟩,(by show 2 * f+1<2 * (f+1)+1;omega),Xy rfl (Xu _) by5,Xr _ (Xr _ (Xs _ (Xw (Xu _) (Xw (Xu _) (Xw (Wb (by simp [Cn.cellss];rfl)) (Xv _)))) (Xq _ (Xq _ (Xq _ (Xq _ (Xr _ (Xo _))))))))⟩)
    |(rw [if_neg g60] at hu;exact ⟨(s,f+1,cs++[Cn.mk ct ac ca],u57,false),⟨l2,(by show L.length - s.at_<f+1;omega),(fun h=>by cases h),hu⟩,(by show 2 * (f+1)+0<2 * (f+1)+1;omega),Xy rfl (Xu _) by5,Xr _ (Xr _ (Xs _ (Xw (Xu _) (Xw (Xu _) (Xw (Wb (by simp [Cn.cellss];rfl)) (Xv _)))) (Xq _ (Xq _ (Xq _ (Xq _ (Xr _ (Xo _))))))))⟩)
   intro g60
   refine Qbl ?_
   first
   |(rw [if_pos g60] at hu;have l4:=(Yf l2 g60).ok l2;have l5:=(is_lt g60).2;exact ⟨(stepP s,f,cs++[Cn.mk ct ac ca],u57,true),⟨l4,(by show L.length - (s.at_+1)<f;omega),(fun _=>by show (cs++_).length≤s.at_+1;rw [List.length_append];simp;omega),hu⟩,(by show 2 * f+1<2 * (f+1)+1;omega),Xy rfl (Xu _) by5,Xr _ (Xr _ (Xs _ (Xw (Xu _) (Xw (Xu _) (Xw (Wb (by simp [Cn.cellss];rfl)) (Xv _)))) (Xq _ (Xq _ (Xq _ (Xq _ (Xr _ (Xo _))))))))⟩)
   |(rw [if_neg g60] at hu;exact ⟨(s,f+1,cs++[Cn.mk ct ac ca],u57,false),⟨l2,(by show L.length - s.at_<f+1;omega),(fun h=>by cases h),hu⟩,(by show 2 * (f+1)+0<2 * (f+1)+1;omega),Xy rfl (Xu _) by5,Xr _ (Xr _ (Xs _ (Xw (Xu _) (Xw (Xu _) (Xw (Wb (by simp [Cn.cellss];rfl)) (Xv _)))) (Xq _ (Xq _ (Xq _ (Xq _ (Xr _ (Xo _))))))))⟩)
  refine Qbk ?_
  obtain ⟨g,rfl⟩:∃ f',g=f'+1:=⟨g - 1,by omega⟩
  rw [typesL_go g45] at hv
  have d1:=atype_lt Xe j1 g45
  have d2:=atype_adv Xe j1
  have m2:=d2.ok j1
  have HA2:=atype_c b L hL 302 (typeP L) (Type_c b L hL 302) Xe s j1
  obtain ⟨⟨⟨yk,ys,yn,yl⟩,s2⟩,e2'⟩:∃ r,atypeG L (typeP L) s=r:=⟨_,rfl⟩
  rw [e2'] at HA2 hv m2 d1
  simp only [Ty.cells] at HA2
  simp only [] at d1 m2 hv
  have m3:=m2.1
  refine Qck ?_
  refine Yc 5 (i:=3) U U U U U (Zl (xs:=[.tmp 48]) (i:=0) U U U (HA2) by2 ⟨_,U,?_⟩)
  refine Zi 50 (none) (i:=4) U U U U U (Zf (xs:=[.tmp 49]) Xj U U U U U U (Wc U) ⟨U,U⟩) ?_
  refine Yc 7 (i:=5) U U U U U (Zv (i:=0) Xj U U U U (.seq _ _) by7 (fun u51=>⟨_,U,?_⟩))
  refine QW ?_
  refine Yc 0 (i:=7) U U U U U (Zp (cs':=[_,_,_]) (i:=0) U ts_22 U U U U U (Wc U) U ⟨_,U,?_⟩)
  show AGo _ _ _ _ _ _ _
  refine QcT ?_
  refine ⟨(s2,g,ac++[Ty.mk yk ys yn yl],u51),⟨m2,(by show L.length - s2.at_<g;omega),(by show (ac++[Ty.mk yk ys yn yl]).length≤s2.at_;rw [List.length_append];simp;omega),hv⟩,Nat.lt_succ_self g,by5,(Xs _ (Xw (Xu _) (Xw (Wb (by rw [Ty.cellss_app];rfl)) (Xv _))) (Xq _ (Xq _ (Xq _ (Xq _ (Xt U))))))⟩
 refine Qbk ?_
 obtain ⟨f,rfl⟩:∃ f',f=f'+1:=⟨f - 1,by omega⟩
 have hlt:=hkn g18
 rw [hgo f g18,htk g18] at hu
 have HT:=take_c b L hL q hq1 1 kE
 rw [htk g18] at HT
 simp only [Tok.av] at HT
 have l1:=(Xd i1 hlt).ok i1
 refine Yh [0,1,2,3,4,5,6,7,8] [3,6,8] [[],[0],[],[2],[2,3],[2,3,4],[0,1,2,3,4,5],[0,1,2,3,4,5,6],[0,1,2,3,4,5,6,7]] Yx U ?_
 refine Qa7 ?_
 refine Qw ?_
 refine Yc 3 (i:=3) U U U U U (Zl (xs:=[.tmp 21,.const (.int .i64 1),.const (.string ⟨#[]⟩)]) (i:=0) U U U (HT) by2 ⟨_,U,?_⟩)
 refine Zi 23 (none) (i:=4) U U U U U (op_field1 (ft:=9) (fo:=1) U (by kernel_rfl) ta_9 U U ⟨U,U⟩) ?_
 refine Zi 24 (none) (i:=5) U U U U U (Zf (xs:=[.tmp 23]) Yy U U U U U U (Wc U) ⟨U,U⟩) ?_
 refine Yc 4 (i:=6) U U U U U (Zv (i:=0) Yy U U U U (.seq _ _) by7 (fun u25=>⟨_,U,?_⟩))
 refine QW ?_
 refine Yc 0 (i:=8) U U U U U (Zp (cs':=[_,_,_,_,_]) (i:=0) U ts_44 U U U U U (Wc U) U ⟨_,U,?_⟩)
 show AGo _ _ _ _ _ _ _
 refine QcT ?_
 refine ⟨(stepP q,f,acc++[qt],u25),⟨l1,(by show L.length - (q.at_+1)<f;omega),(by show (acc++[qt]).length≤q.at_+1;rw [List.length_append];simp;omega),hu⟩,Nat.lt_succ_self f,by5,(Xs _ (Xw (Xu _) (Xw (Wb (by rw [Xm];rfl)) (Xv _))) (Xq _ (Xq _ (Xt U))))⟩
theorem clsL_err {L:List Tok} {f:Nat} {p:PS} {ms:List Me} {ds:List Bi} (h:p.e≠0):clsL L f p ms ds=((ms,ds),p):=by
 cases f with
 | zero=>rfl
 | succ f=>rw [clsL,if_pos h]
theorem clsL_end {L:List Tok} {f:Nat} {p:PS} {ms:List Me} {ds:List Bi} (h:p.e=0) (h2:isP L p kEnd=true):clsL L (f+1) p ms ds=((ms,ds),stepP p):=by rw [clsL,if_neg (by rw [h];simp),if_pos h2]
theorem Me.cellss_app' (a b:List Me):Me.cellss (a++b)=Me.cellss a++Me.cellss b:=by simp [Me.cellss]
abbrev zCl:List AV:=[.val (.string kE),.val (.string kE),.val (.slice none 0 0),.val (.slice none 0 0),.val (.slice none 0 0),.val (.int .i64 0)]
theorem class_b (b:Nat) (L:List Tok) (hL:L.length≤100000) (p:PS) (k:POk L 302 p) (c17:Bool) (h3:isP L (takeP L (takeP L p 2 kE).2 1 kE).2 kFrom=c17):MCall Tryz.prog 57 [.ptr b 0] (.loc b (psC L p)) (.agg (classP L p).1.cells) (.loc b (psC L (classP L p).2)):=by
 have H1:=take_c b L hL p k.1 2 kE
 have k1:=(Zn (kind:=2) (s:=kE) by16 k).ok k
 obtain ⟨r,hr⟩:∃ r,classP L p=r:=⟨_,rfl⟩
 rw [hr]
 unfold classP at hr
 simp only [] at hr
 obtain ⟨⟨⟨tk,tt,tn,ta⟩,p1⟩,e1⟩:∃ r,takeP L p 2 kE=r:=⟨_,rfl⟩
 rw [e1] at H1 k1 hr h3
 simp only [Tok.av] at H1 k1 hr h3
 have H2:=take_c b L hL p1 k1.1 1 kE
 have k2:=(Zn (kind:=1) (s:=kE) by16 k1).ok k1
 obtain ⟨⟨⟨vk,vt,vn,va⟩,p2⟩,e2⟩:∃ r,takeP L p1 1 kE=r:=⟨_,rfl⟩
 rw [e2] at H2 k2 hr h3
 simp only [Tok.av] at H2 k2 hr h3
 have HM:=may_eq (b:=b) hL h3
 have k3:=(supers_adv k2).ok k2
 obtain ⟨⟨sl,p3⟩,e3⟩:∃ r,supersP L p2=r:=⟨_,rfl⟩
 rw [e3] at k3 hr
 simp only [] at k3 hr
 have e3:(if c17=true then uppersP L (stepP p2) else ([],p2))=(sl,p3):=by rw [← e3,supersP,h3]
 have H4:=take_c b L hL p3 k3.1 6 kWhere
 have k4:=(Zn (kind:=6) (s:=kWhere) by16 k3).ok k3
 obtain ⟨⟨u4,p4⟩,e4⟩:∃ r,takeP L p3 6 kWhere=r:=⟨_,rfl⟩
 rw [e4] at H4 k4 hr
 simp only [] at H4 k4 hr
 obtain ⟨⟨⟨ml,dl⟩,p5⟩,e5⟩:∃ r,clsL L (L.length+1) p4 [] []=r:=⟨_,rfl⟩
 rw [e5] at hr
 simp only [] at hr
 refine Zc Tryz.func57 U (by kernel_rfl) U (Wc U) ?_
 refine Qe ?_
 refine QeM ?_;intro b2
 refine QB ?_
 refine Zb 7 U U U (Zl (xs:=[.tmp 6,.const (.int .i64 2),.const (.string ⟨#[]⟩)]) (i:=1) U U U (H1) by2 ?_)
 refine QR ?_;intro b3
 refine Qaw ?_
 refine Qy ?_
 refine c_drawnEF [0,1,2,5,6,3,4,7,8,9] [3,8,9] [[],[0],[],[2],[2,3],[],[5],[0,1,2,3,4,5,6],[],[0,1,2,3,4,5,6,7,8]] 8 (cs0:=[_,_,_,_,_,_]) Yx U U U U tz_118 U U (EOpsF.d 8 (none) (i:=0) U U U U U U (op_fieldAddr_m U tf_109_1 U ⟨U,U⟩) ?_)
 refine EOpsF.d 9 (some 0) (i:=1) U U U U U U (Xl (i:=0) U ta_9 U U U ⟨U,U⟩) ?_
 refine EOpsF.d 10 (none) (i:=2) U U U U U U (op_move U U ⟨U,U⟩) ?_
 refine EOpsF.d 13 (none) (i:=5) U U U U U U (op_fieldAddr_m U tf_109_3 U ⟨U,U⟩) ?_
 refine EOpsF.d 14 (some 0) (i:=6) U U U U U U (Xl (i:=0) U ta_3 U U U ⟨U,U⟩) ?_
 refine EOpsF.w 2 (i:=3) U U U U U U (Zl (xs:=[.tmp 10,.const (.int .i64 1),.const (.string ⟨#[]⟩)]) (i:=0) U U U (H2) by2 ⟨_,U,?_⟩)
 refine EOpsF.d 12 (none) (i:=4) U U U U U U (op_field1 (ft:=9) (fo:=1) U (by kernel_rfl) ta_9 U U ⟨U,U⟩) ?_
 refine EOpsF.d 15 (none) (i:=7) U U U U U U (Zm (ns:=[0,1,5]) (xs:=[.tmp 9,.tmp 12,.tmp 14]) U tz_118 U tfl_118 U U U U ⟨U,U⟩) ?_
 refine EOpsF.free (i:=8) U U U ?_;intro b4
 refine EOpsF.w 3 (i:=9) U U U U U U (Zp (cs':=[_,_,_,_,_,_]) (i:=0) U ts_118 U U U U U (Wc U) U ⟨_,U,?_⟩)
 show AGo _ _ _ _ _ _ _
 refine Qc ?_
 refine QS ?_
 refine Zb 17 U U U (Zl (xs:=[.tmp 16,.const (.string ⟨#[102,114,111,109]⟩)]) (i:=2) U U U (HM) by2 ?_)
 refine Qa ?_
 apply c_joink (rg [(1,1),(3,1),(6,15),(22,1),(45,1),(59,1)]) (σ:=Unit) (fun zz=>match zz with|z=>[]) (fun zz=>match zz with|z=>[.loc b3 (Tok.mk tk tt tn ta).av,.loc b2 zCl,.loc b (psC L p3),.loc b4 [.val (.string tt),.val (.string vt),.seq 1 (strs sl),.val (.slice none 0 0),.val (.slice none 0 0),.val (.int .i64 ta)]]) (fun zz=>match zz with|z=>True)
 ·repeat' (first|exact Wf|apply Wd rfl|apply We rfl)
 ·skip
  rcases c17 with _|_
  ·refine QbL ?_
   first
   | exact ⟨(),trivial,by5,Xt rfl⟩
   |(rw [if_neg by16] at e3;cases e3;exact ⟨(),trivial,by5,(Xq _ (Xq _ (Xq _ (Xs _ by1 (MLe.nil)))))⟩)
  refine Q4 ?_
  rw [if_pos rfl] at e3
  have kA:=(Yf k2 h3).ok k2
  have HU:=uppers_c b L hL 302 (stepP p2) kA
  rw [e3] at HU
  refine Qh ?_
  refine Zb 19 U U U (Zl (xs:=[.tmp 18]) (i:=2) U U U (HU) by2 ?_)
  refine Qt ?_
  refine Zr U U (Zp (cs':=[_,_,_,_,_,_]) (i:=3) U ts_44 U U U U U (Wc U) U ?_)
  refine Qa2 ?_
  refine go_lp ?_
  first
  | exact ⟨(),trivial,by5,Xt rfl⟩
  |(rw [if_neg by16] at e3;cases e3;exact ⟨(),trivial,by5,(Xq _ (Xq _ (Xq _ (Xs _ by1 (MLe.nil)))))⟩)
 rintro z hI
 try dsimp only [List.cons_append,List.nil_append] at hI ⊢
 refine Qc ?_
 refine Q0 ?_
 refine Zb 22 U U U (Zl (xs:=[.tmp 21,.const (.int .i64 6),.const (.string ⟨#[119,104,101,114,101]⟩)]) (i:=2) U U U (H4) by2 ?_)
 refine QcG ?_
 refine Yp 168 6 (Yp 130 13 ?_)
 apply Yl (rg [(1,1),(3,1),(5,55)]) (σ:=PS × Nat × List Me × List Bi × Value × Value) (fun zz=>match zz with|(q,f,ms,ds,u,v)=>[]) (fun zz=>match zz with|(q,f,ms,ds,u,v)=>[.loc b3 (Tok.mk tk tt tn ta).av,.loc b2 zCl,.loc b (psC L q),.loc b4 [.val (.string tt),.val (.string vt),.seq 1 (strs sl),.own u 6 (Me.cellss ms),.own v 13 (Bi.cellss ds),.val (.int .i64 ta)],.own 168 6 u,.own 130 13 v]) (fun zz=>match zz with|(q,f,ms,ds,u,v)=>POk L 302 q∧(q.e=0→L.length - q.at_<f∧ms.length+ds.length≤q.at_)∧clsL L f q ms ds=((ml,dl),p5)) (fun zz=>match zz with|(q,f,ms,ds,u,v)=>f) ((p4,L.length+1,[],[],.slice none 0 0,.slice none 0 0))
 ·repeat' (first|exact Wf|apply Wd rfl|apply We rfl)
 ·exact ⟨k4,fun _=>⟨by omega,Nat.zero_le _⟩,e5⟩
 ·exact by5
 ·exact (Xq _ (Xq _ (Xq _ (Xs _ (Xw (Xu _) (Xw (Xu _) (Xw (Xu _) (Xw (Le.nilOwn 6) (Xw (Le.nilOwn 13) (Xv _)))))) (Xo _)))))
 rintro ⟨q,f,ms,ds,u,v⟩ hI
 try dsimp only [List.cons_append,List.nil_append] at hI ⊢
 obtain ⟨i1,i2,hu⟩:=hI
 have hq1:=i1.1
 refine QS ?_
 refine Qdc ?_
 refine Qz ?_;intro c27 h27
 refine Qb ?_
 obtain ⟨rfl,g27⟩|⟨rfl,g27⟩:=Za h27
 ·skip
  refine Qah ?_
  refine Qby ?_
  refine Qa ?_
  refine Qa3 ?_
  refine Qhr ?_
  refine Qhs ?_
  refine Qr ?_
  first
  |(rw [clsL_err g27] at hu;cases hu;subst hr;exact Zk (i:=1) rfl rfl rfl ta_118 rfl by1 (Xr _ (Xr _ (Xq _ (Xp _)))) ⟨rfl,rfl⟩)
  |(obtain ⟨f,rfl⟩:∃ f',f=f'+1:=⟨f - 1,by have:=(i2 g27).1;omega⟩;rw [clsL_end g27 g30] at hu;cases hu;subst hr;exact Zk (i:=1) rfl rfl rfl ta_118 rfl by1 (Xr _ (Xr _ (Xq _ (Xp _)))) ⟨rfl,rfl⟩)
 skip
 refine Qf ?_
 refine Zo 30 U U U U U (op_mayc (xs:=[.tmp 29,.const (.string ⟨#[101,110,100]⟩)]) (i:=2) U U U (may_c b L hL q kEnd) by2 ?_ ?_)
 ·intro g30
  refine Qal ?_;intro c31 h31
  try replace h31:=Ym h31 h30
  obtain rfl:c31=false:=by
   cases c31 with
   | false=>rfl
   | true=>exact absurd (h31.1 rfl) by16
  refine Qby ?_
  refine Qa ?_
  refine Qa3 ?_
  refine Qhr ?_
  refine Qhs ?_
  refine Qr ?_
  first
  |(rw [clsL_err g27] at hu;cases hu;subst hr;exact Zk (i:=1) rfl rfl rfl ta_118 rfl by1 (Xr _ (Xr _ (Xq _ (Xp _)))) ⟨rfl,rfl⟩)
  |(obtain ⟨f,rfl⟩:∃ f',f=f'+1:=⟨f - 1,by have:=(i2 g27).1;omega⟩;rw [clsL_end g27 g30] at hu;cases hu;subst hr;exact Zk (i:=1) rfl rfl rfl ta_118 rfl by1 (Xr _ (Xr _ (Xq _ (Xp _)))) ⟨rfl,rfl⟩)
 intro g30
 refine Qal ?_;intro c31 h31
 try replace h31:=Ym h31 h30
 obtain rfl:c31=true:=h31.2 rfl
 refine Qby ?_
 refine Qa ?_
 refine Qbk ?_
 refine QaJ ?_
 obtain ⟨i3,i4⟩:=i2 g27
 have hl1:(Me.cellss ms).length≤200000:=by rw [Me.cellss_len];omega
 have hl2:(Bi.cellss ds).length≤200000:=by rw [Bi.cellss_len];omega
 obtain ⟨f,rfl⟩:∃ f',f=f'+1:=⟨f - 1,by omega⟩
 rw [clsL,if_neg (by rw [g27];simp),if_neg g30] at hu
 refine Qh ?_
 refine Zb 34 U U U (op_mayc (xs:=[.tmp 33,.const (.string ⟨#[100,101,102]⟩)]) (i:=2) U U U (may_c b L hL q kDef) by2 ?_ ?_)
 ·intro g34
  refine Qa ?_
  refine Q4 ?_
  rw [if_pos g34] at hu
  have l1:=(Yf i1 g34).ok i1
  have l2:=(bindP_adv l1).ok l1
  have b1:(stepP q).at_≤_:=(bindP_adv l1).1
  have b1':(stepP q).at_=q.at_+1:=rfl
  have HB:=bindP_c b L hL (stepP q) l1
  obtain ⟨⟨⟨bn,⟨xk,xs,xn,⟨xtk,xts,xtn,xtl⟩,xks,xal,xbs,xp⟩,bp⟩,q2⟩,f2⟩:∃ r,bindP L (stepP q)=r:=⟨_,rfl⟩
  rw [f2] at HB l2 b1 hu
  simp only [Bi.cells,Ex.cells,Ty.cells,List.cons_append,List.nil_append] at HB l2 b1 hu
  have b2':q.at_≤q2.at_:=by omega
  have HS:=take_c b L hL q2 l2.1 7 kSemi
  have hpr:=take_prog (L:=L) (p:=q2) (kind:=7) (s:=kSemi) by16
  have l5:=(Zn (kind:=7) (s:=kSemi) by16 l2).ok l2
  obtain ⟨⟨u6,q5⟩,f5⟩:∃ r,takeP L q2 7 kSemi=r:=⟨_,rfl⟩
  rw [f5] at HS hpr l5 hu
  simp only [Prod.mk.injEq] at HS hpr l5 hu
  refine Qfe ?_
  refine QW ?_
  refine Qht ?_
  refine Qw ?_
  refine Yc 2 (i:=3) U U U U U (Zl (xs:=[.tmp 37]) (i:=0) U U U (HB) by2 ⟨_,U,?_⟩)
  refine Zi 39 (none) (i:=4) U U U U U (Zf (xs:=[.tmp 38]) el_79 U U U U U U (Wc U) ⟨U,U⟩) ?_
  refine Yc 5 (i:=5) U U U U U (Zv (i:=0) el_79 U U U U (.seq _ _) by7 (fun u40=>⟨_,U,?_⟩))
  refine QW ?_
  refine Yc 3 (i:=7) U U U U U (Zp (cs':=[_,_,_,_,_,_]) (i:=0) U ts_79 U U U U U (Wc U) U ⟨_,U,?_⟩)
  show AGo _ _ _ _ _ _ _
  refine Qc ?_
  first|(have:=HN;refine c_le (SLe.refl _) (Xr _ (Xo _)) ?_)|skip
  refine Qh ?_
  refine Zb 59 U U U (Zl (xs:=[.tmp 58,.const (.int .i64 7),.const (.string ⟨#[59]⟩)]) (i:=2) U U U (HS) by2 ?_)
  refine Qbc ?_
  first
  | exact ⟨(q5,f,ms,ds++[Bi.mk bn (Ex.mk xk xs xn (Ty.mk xtk xts xtn xtl) xks xal xbs xp) bp],u,u40),⟨l5,(fun e=>by obtain ⟨⟨_,h5⟩,_,h6⟩:=hpr e;rw [h5];refine ⟨?_,?_⟩;(show L.length - (q2.at_+1)<f;omega);(show ms.length+(ds++_).length≤q2.at_+1;rw [List.length_append];simp;omega)),hu⟩,Nat.lt_succ_self f,by5,(Xq _ (Xq _ (Xq _ (Xs _ (Xw (Xu _) (Xw (Xu _) (Xw (Xu _) (Xw (Xu _) (Xw (Wb by10) (Xv _)))))) (Xt rfl)))))⟩
  | exact ⟨(q5,f,ms++[Me.mk nt (Ty.mk yk ys yn yl) na],ds,u56,v),⟨l5,(fun e=>by obtain ⟨⟨_,h5⟩,_,h6⟩:=hpr e;rw [h5];refine ⟨?_,?_⟩;(show L.length - (q2.at_+1)<f;omega);(show (ms++_).length+ds.length≤q2.at_+1;rw [List.length_append];simp;omega)),hu⟩,Nat.lt_succ_self f,by5,(Xq _ (Xq _ (Xq _ (Xs _ (Xw (Xu _) (Xw (Xu _) (Xw (Xu _) (Xw (Wb (by rw [Me.cellss_app'];rfl)) (Xw (Xu _) (Xv _)))))) (Xt rfl)))))⟩
 intro g34
 refine Qa ?_
 refine QX ?_
 refine Q2 ?_
 rw [if_neg g34] at hu
 have HN:=pName_c b L hL 302 q i1
 have l1:=(name_adv i1).ok i1
 have b1:=(name_adv i1).1
 obtain ⟨⟨⟨nk,nt,nn,na⟩,q1⟩,f1⟩:∃ r,nameP L q=r:=⟨_,rfl⟩
 rw [f1] at HN l1 b1 hu
 simp only [Tok.av] at HN l1 b1 hu
 have HC:=take_c b L hL q1 l1.1 7 kColon
 have l2':=(Zn (kind:=7) (s:=kColon) by16 l1).ok l1
 have b2'':=(Zn (L:=L) (kind:=7) (s:=kColon) by16 l1).1
 obtain ⟨⟨u7,q3⟩,f3⟩:∃ r,takeP L q1 7 kColon=r:=⟨_,rfl⟩
 rw [f3] at HC l2' b2'' hu
 simp only [] at HC l2' b2'' hu
 have HT:=typeP_c b L hL 302 q3 l2'
 have l2:=(typeP_adv l2').ok l2'
 have b3':=(typeP_adv l2').1
 obtain ⟨⟨⟨yk,ys,yn,yl⟩,q2⟩,f2⟩:∃ r,typeP L q3=r:=⟨_,rfl⟩
 rw [f2] at HT l2 b3' hu
 simp only [Ty.cells] at HT l2 b3' hu
 have b2':q.at_≤q2.at_:=by omega
 have HS:=take_c b L hL q2 l2.1 7 kSemi
 have hpr:=take_prog (L:=L) (p:=q2) (kind:=7) (s:=kSemi) by16
 have l5:=(Zn (kind:=7) (s:=kSemi) by16 l2).ok l2
 obtain ⟨⟨u6,q5⟩,f5⟩:∃ r,takeP L q2 7 kSemi=r:=⟨_,rfl⟩
 rw [f5] at HS hpr l5 hu
 simp only [Prod.mk.injEq] at HS hpr l5 hu
 refine Qh ?_
 refine Zb 43 U U U (Zl (xs:=[.tmp 42]) (i:=2) U U U (HN) by2 ?_)
 refine QR ?_;intro b5
 refine Qaw ?_
 refine QB ?_
 refine Zb 45 U U U (Zl (xs:=[.tmp 44,.const (.int .i64 7),.const (.string ⟨#[58]⟩)]) (i:=3) U U U (HC) by2 ?_)
 refine Qa ?_
 refine Yh [0,1,2,3,4,6,7,5,8,9,10,11,12] [5,10,12] [[],[0],[],[2],[],[4],[],[6],[2,3,4,5,6,7],[2,3,4,5,6,7,8],[0,1,2,3,4,5,6,7,8,9],[0,1,2,3,4,5,6,7,8,9,10],[0,1,2,3,4,5,6,7,8,9,10,11]] Yx U ?_
 refine QW ?_
 refine Zi 47 (some 4) (i:=1) U U U U U (Xl (i:=0) U ta_116 U U U ⟨U,U⟩) ?_
 refine Qa7 ?_
 refine Qw ?_
 refine Qa7 ?_
 refine Yc 3 (i:=5) U U U U U (Zl (xs:=[.tmp 50]) (i:=0) U U U (HT) by2 ⟨_,U,?_⟩)
 refine Zi 54 (none) (i:=8) U U U U U (Zm (ns:=[0,1,2]) (xs:=[.tmp 49,.tmp 51,.tmp 53]) U tz_168 U tfl_168 U U U U ⟨U,U⟩) ?_
 refine Zi 55 (none) (i:=9) U U U U U (Zf (xs:=[.tmp 54]) el_116 U U U U U U (Wc U) ⟨U,U⟩) ?_
 refine Yc 5 (i:=10) U U U U U (Zv (i:=0) el_116 U U U U (.seq _ _) by7 (fun u56=>⟨_,U,?_⟩))
 refine QW ?_
 refine Yc 4 (i:=12) U U U U U (Zp (cs':=[_,_,_,_,_,_]) (i:=0) U ts_116 U U U U U (Wc U) U ⟨_,U,?_⟩)
 show AGo _ _ _ _ _ _ _
 refine Qc ?_
 first|(have:=HN;refine c_le (SLe.refl _) (Xr _ (Xo _)) ?_)|skip
 refine Qh ?_
 refine Zb 59 U U U (Zl (xs:=[.tmp 58,.const (.int .i64 7),.const (.string ⟨#[59]⟩)]) (i:=2) U U U (HS) by2 ?_)
 refine Qbc ?_
 first
 | exact ⟨(q5,f,ms,ds++[Bi.mk bn (Ex.mk xk xs xn (Ty.mk xtk xts xtn xtl) xks xal xbs xp) bp],u,u40),⟨l5,(fun e=>by obtain ⟨⟨_,h5⟩,_,h6⟩:=hpr e;rw [h5];refine ⟨?_,?_⟩;(show L.length - (q2.at_+1)<f;omega);(show ms.length+(ds++_).length≤q2.at_+1;rw [List.length_append];simp;omega)),hu⟩,Nat.lt_succ_self f,by5,(Xq _ (Xq _ (Xq _ (Xs _ (Xw (Xu _) (Xw (Xu _) (Xw (Xu _) (Xw (Xu _) (Xw (Wb by10) (Xv _)))))) (Xt rfl)))))⟩
 | exact ⟨(q5,f,ms++[Me.mk nt (Ty.mk yk ys yn yl) na],ds,u56,v),⟨l5,(fun e=>by obtain ⟨⟨_,h5⟩,_,h6⟩:=hpr e;rw [h5];refine ⟨?_,?_⟩;(show L.length - (q2.at_+1)<f;omega);(show (ms++_).length+ds.length≤q2.at_+1;rw [List.length_append];simp;omega)),hu⟩,Nat.lt_succ_self f,by5,(Xq _ (Xq _ (Xq _ (Xs _ (Xw (Xu _) (Xw (Xu _) (Xw (Xu _) (Xw (Wb (by rw [Me.cellss_app'];rfl)) (Xw (Xu _) (Xv _)))))) (Xt rfl)))))⟩
theorem class_c (b:Nat) (L:List Tok) (hL:L.length≤100000) (p:PS) (k:POk L 302 p):MCall Tryz.prog 57 [.ptr b 0] (.loc b (psC L p)) (.agg (classP L p).1.cells) (.loc b (psC L (classP L p).2)):=class_b b L hL p k _ rfl
theorem Le.own_less {u:Value} {m:Nat} {es es':List (List AV)} (h:Less es es'):Le (.own u m es) (.own u m es'):=fun F x k=>by
 cases k with|own _ k=>exact .own _ (Le.seq h _ _ k)
theorem Less.snoc {a b:List AV} (h:Les a b) (hl:a.length=b.length):∀ es:List (List AV),Less (es++[a]) (es++[b])
 | []=>.cons h hl .nil
 | _::es=>.cons (Xv _) rfl (Less.snoc h hl es)
theorem preds_snoc {u:Value} (acc:List Pr) (ct vt:ByteArray):Le (.own u 5 (Pr.cellss acc++[[.val (.string ct),.val (.int .i64 1),.val (.string vt),.val (.int .i64 0),.val (.slice none 0 0)]])) (.own u 5 (Pr.cellss (acc++[Pr.mk ct (Ty.mk 1 vt 0 [])]))):=by
 rw [show Pr.cellss (acc++[Pr.mk ct (Ty.mk 1 vt 0 [])])=Pr.cellss acc++[[.val (.string ct),.val (.int .i64 1),.val (.string vt),.val (.int .i64 0),.seq 4 []]] by simp [Pr.cellss,Pr.cells,Ty.cells,Ty.cellss]]
 exact Le.own_less (Less.snoc (Xw (Xu _) (Xw (Xu _) (Xw (Xu _) (Xw (Xu _) (Xw (Xx _) (Xv _)))))) U _)
theorem ctxL_err {L:List Tok} {f:Nat} {p:PS} {acc:List Pr} (h:p.e≠0):ctxL L f p acc=(acc,p):=by
 cases f with
 | zero=>rfl
 | succ f=>rw [ctxL,if_pos h]
theorem insL_err {L:List Tok} {f:Nat} {p:PS} {bs:List Bi} (h:p.e≠0):insL L f p bs=(bs,p):=by
 cases f with
 | zero=>rfl
 | succ f=>rw [insL,if_pos h]
theorem insL_end {L:List Tok} {f:Nat} {p:PS} {bs:List Bi} (h:p.e=0) (h2:isP L p kEnd=true):insL L (f+1) p bs=(bs,stepP p):=by rw [insL,if_neg (by rw [h];simp),if_pos h2]
abbrev zIn:List AV:=[.val (.string kE),.val (.int .i64 0),.val (.string kE),.val (.int .i64 0),.val (.slice none 0 0),.val (.slice none 0 0),.val (.slice none 0 0),.val (.int .i64 0)]
theorem inst_b (b:Nat) (L:List Tok) (hL:L.length≤100000) (p:PS) (k:POk L 302 p) (c18:Bool) (h3:isP L (atypeG L (typeP L) (takeP L p 2 kE).2).2 kFrom=c18):MCall Tryz.prog 58 [.ptr b 0] (.loc b (psC L p)) (.agg (instP L p).1.cells) (.loc b (psC L (instP L p).2)):=by
 have H1:=take_c b L hL p k.1 2 kE
 have k1:=(Zn (kind:=2) (s:=kE) by16 k).ok k
 obtain ⟨r,hr⟩:∃ r,instP L p=r:=⟨_,rfl⟩
 rw [hr]
 unfold instP at hr
 simp only [] at hr
 obtain ⟨⟨⟨tk,tt,tn,ta⟩,p1⟩,e1⟩:∃ r,takeP L p 2 kE=r:=⟨_,rfl⟩
 rw [e1] at H1 k1 hr h3
 simp only [Tok.av] at H1 k1 hr h3
 have H2:=atype_c b L hL 302 (typeP L) (Type_c b L hL 302) Xe p1 k1
 have k2:=(atype_adv Xe k1).ok k1
 obtain ⟨⟨⟨hk,hs,hn,hl⟩,p2⟩,e2⟩:∃ r,atypeG L (typeP L) p1=r:=⟨_,rfl⟩
 rw [e2] at H2 k2 hr h3
 simp only [Ty.cells] at H2 k2 hr h3
 have HM:=may_eq (b:=b) hL h3
 have k3:=(ctx_adv k2).ok k2
 obtain ⟨⟨cxs,p3⟩,e3⟩:∃ r,ctxP L p2=r:=⟨_,rfl⟩
 rw [e3] at k3 hr
 simp only [] at k3 hr
 have e3:(if c18=true then ctxL L (L.length+1) (stepP p2) [] else ([],p2))=(cxs,p3):=by rw [← e3,ctxP,h3]
 have H4:=take_c b L hL p3 k3.1 6 kWhere
 have k4:=(Zn (kind:=6) (s:=kWhere) by16 k3).ok k3
 obtain ⟨⟨u4,p4⟩,e4⟩:∃ r,takeP L p3 6 kWhere=r:=⟨_,rfl⟩
 rw [e4] at H4 k4 hr
 simp only [] at H4 k4 hr
 obtain ⟨⟨bl,p5⟩,e5⟩:∃ r,insL L (L.length+1) p4 []=r:=⟨_,rfl⟩
 rw [e5] at hr
 simp only [] at hr
 refine Zc Tryz.func58 U (by kernel_rfl) U (Wc U) ?_
 refine Qe ?_
 refine QfB ?_;intro b2
 refine QB ?_
 refine Zb 9 U U U (Zl (xs:=[.tmp 8,.const (.int .i64 2),.const (.string ⟨#[]⟩)]) (i:=1) U U U (H1) by2 ?_)
 refine QR ?_;intro b3
 refine Qaw ?_
 refine Qy ?_
 refine c_drawnEF [0,1,2,4,5,3,6,7,8] [3,7,8] [[],[0],[],[2],[],[4],[0,1,2,3,4,5],[],[0,1,2,3,4,5,6,7]] 7 (cs0:=[_,_,_,_,_,_,_,_]) Yx U U U U tz_122 U U (EOpsF.d 10 (none) (i:=0) U U U U U U (op_fieldAddr_m U tf_109_1 U ⟨U,U⟩) ?_)
 refine EOpsF.d 11 (some 0) (i:=1) U U U U U U (Xl (i:=0) U ta_9 U U U ⟨U,U⟩) ?_
 refine EOpsF.d 12 (none) (i:=2) U U U U U U (op_move U U ⟨U,U⟩) ?_
 refine EOpsF.d 14 (none) (i:=4) U U U U U U (op_fieldAddr_m U tf_109_3 U ⟨U,U⟩) ?_
 refine EOpsF.d 15 (some 0) (i:=5) U U U U U U (Xl (i:=0) U ta_3 U U U ⟨U,U⟩) ?_
 refine EOpsF.w 2 (i:=3) U U U U U U (Zl (xs:=[.tmp 12]) (i:=0) U U U (H2) by2 ⟨_,U,?_⟩)
 refine EOpsF.d 16 (none) (i:=6) U U U U U U (Zm (ns:=[0,1,4]) (xs:=[.tmp 11,.tmp 13,.tmp 15]) U tz_122 U tfl_122 U U U U ⟨U,U⟩) ?_
 refine EOpsF.free (i:=7) U U U ?_;intro b4
 refine EOpsF.w 3 (i:=8) U U U U U U (Zp (cs':=[_,_,_,_,_,_,_,_]) (i:=0) U ts_122 U U U U U (Wc U) U ⟨_,U,?_⟩)
 show AGo _ _ _ _ _ _ _
 refine Qc ?_
 refine QS ?_
 refine Zb 18 U U U (Zl (xs:=[.tmp 17,.const (.string ⟨#[102,114,111,109]⟩)]) (i:=2) U U U (HM) by2 ?_)
 refine Qa ?_
 apply c_joink (rg [(1,1),(3,1),(5,39),(45,1),(57,1),(66,1)]) (σ:=Unit) (fun zz=>match zz with|z=>[]) (fun zz=>match zz with|z=>[.loc b3 (Tok.mk tk tt tn ta).av,.loc b2 zIn,.loc b (psC L p3),.loc b4 [.val (.string tt),.val (.int .i64 hk),.val (.string hs),.val (.int .i64 hn),.seq 4 (Ty.cellss hl),.seq 5 (Pr.cellss cxs),.val (.slice none 0 0),.val (.int .i64 ta)]]) (fun zz=>match zz with|z=>True)
 ·repeat' (first|exact Wf|apply Wd rfl|apply We rfl)
 ·skip
  rcases c18 with _|_
  ·refine QbL ?_
   first
   |(rw [if_neg by16] at e3;cases e3;exact ⟨(),trivial,by5,(Xq _ (Xq _ (Xq _ (Xs _ by1 (MLe.nil)))))⟩)
   | (have hu2:(acc,q)=(cxs,p3):=by
       cases mo with
       | false=>exact hu
       | true=>rw [if_pos rfl,ctxL_err (fun e=>g26 ⟨rfl,e⟩)] at hu;exact hu
      simp only [Prod.mk.injEq] at hu2
      obtain ⟨rfl,rfl⟩:=hu2
      exact ⟨(),trivial,by5,(Xq _ (Xq _ (Xq _ (Xs _ by1 (Xr _ (MLe.nil))))))⟩)
  refine QM ?_
  rw [if_pos rfl] at e3
  have kA:=(Yf k2 h3).ok k2
  refine QaN ?_
  refine Yp 170 5 ?_
  apply Yl (rg [(1,1),(3,1),(5,39),(45,1),(57,1),(66,1)]) (σ:=PS × Nat × List Pr × Value × Bool) (fun zz=>match zz with|(q,f,acc,u,mo)=>[(5,.val (.bool mo))]) (fun zz=>match zz with|(q,f,acc,u,mo)=>[.loc b3 (Tok.mk tk tt tn ta).av,.loc b2 zIn,.loc b (psC L q),.loc b4 [.val (.string tt),.val (.int .i64 hk),.val (.string hs),.val (.int .i64 hn),.seq 4 (Ty.cellss hl),.own u 5 (Pr.cellss acc),.val (.slice none 0 0),.val (.int .i64 ta)],.own 170 5 u]) (fun zz=>match zz with|(q,f,acc,u,mo)=>POk L 302 q∧L.length - q.at_<f∧(mo=true→acc.length≤q.at_)∧(if mo=true then ctxL L f q acc else (acc,q))=(cxs,p3)) (fun zz=>match zz with|(q,f,acc,u,mo)=>2 * f+(if mo=true then 1 else 0)) ((stepP p2,L.length+1,[],.slice none 0 0,true))
  ·repeat' (first|exact Wf|apply Wd rfl|apply We rfl)
  ·exact ⟨kA,by omega,fun _=>Nat.zero_le _,e3⟩
  ·exact by5
  ·exact (Xq _ (Xq _ (Xq _ (Xs _ (Xw (Xu _) (Xw (Xu _) (Xw (Xu _) (Xw (Xu _) (Xw (Xu _) (Xw (Le.nilOwn 5) (Xv _))))))) (Xo _)))))
  rintro ⟨q,f,acc,u,mo⟩ hI
  try dsimp only [List.cons_append,List.nil_append] at hI ⊢
  obtain ⟨i1,i2,i3,hu⟩:=hI
  have hq1:=i1.1
  refine QaJ ?_
  refine Zw 26 (mo=true∧q.e=0) ?_ _ _ U ?_
  ·skip
   refine Qai ?_
   have h20:(mo=true↔mo=true):=Iff.rfl
   obtain ⟨rfl,g20⟩|⟨rfl,g20⟩:=Za h20
   ·skip
    refine QaH ?_
    refine Wa U ?_ by6 by4
    simp_all;done
   skip
   refine Qf ?_
   refine Qf5 ?_
   refine Qba ?_
   refine QeW ?_
   refine Qak ?_;intro c25 h25
   refine Qm ?_
   refine Wa U ?_ by6 by4
   simp_all;done
  intro c26 h26
  refine Qc ?_
  obtain ⟨rfl,g26⟩|⟨rfl,g26⟩:=Za h26
  ·refine QX ?_
   refine c_exit (x_code (x_lp (x_here (go_lp ?_))))
   first
   |(rw [if_neg by16] at e3;cases e3;exact ⟨(),trivial,by5,(Xq _ (Xq _ (Xq _ (Xs _ by1 (MLe.nil)))))⟩)
   | (have hu2:(acc,q)=(cxs,p3):=by
       cases mo with
       | false=>exact hu
       | true=>rw [if_pos rfl,ctxL_err (fun e=>g26 ⟨rfl,e⟩)] at hu;exact hu
      simp only [Prod.mk.injEq] at hu2
      obtain ⟨rfl,rfl⟩:=hu2
      exact ⟨(),trivial,by5,(Xq _ (Xq _ (Xq _ (Xs _ by1 (Xr _ (MLe.nil))))))⟩)
  refine Qdq ?_
  obtain ⟨rfl,hq0⟩:=g26
  have i3:=i3 rfl
  have hle:(Pr.cellss acc).length≤200000:=by rw [Pr.cellss_len];omega
  rw [if_pos rfl] at hu
  obtain ⟨f,rfl⟩:∃ f',f=f'+1:=⟨f - 1,by omega⟩
  rw [ctxL,if_neg (by rw [hq0];simp)] at hu
  have HP:=take_c b L hL q i1.1 2 kE
  have l1:=(Zn (kind:=2) (s:=kE) by16 i1).ok i1
  have b1:=(Zn (L:=L) (kind:=2) (s:=kE) by16 i1).1
  obtain ⟨z,hz⟩:∃ z,predP L q=z:=⟨_,rfl⟩
  rw [hz] at hu
  unfold predP at hz
  obtain ⟨⟨⟨ck,ct,cn,ca⟩,q1⟩,f1⟩:∃ r,takeP L q 2 kE=r:=⟨_,rfl⟩
  rw [f1] at HP hz l1 b1
  simp only [Tok.av] at HP hz l1 b1
  have HV:=take_c b L hL q1 l1.1 1 kE
  have l2:=(Zn (kind:=1) (s:=kE) by16 l1).ok l1
  have b2':=(Zn (L:=L) (kind:=1) (s:=kE) by16 l1).1
  obtain ⟨⟨⟨vk,vt,vn,va⟩,q2⟩,f2⟩:∃ r,takeP L q1 1 kE=r:=⟨_,rfl⟩
  rw [f2] at HV l2 b2' hz
  simp only [Tok.av] at HV l2 b2' hz
  subst hz
  simp only [] at hu
  have l2a:=l2.1
  refine Qh ?_
  refine Zb 28 U U U (Zl (xs:=[.tmp 27,.const (.int .i64 2),.const (.string ⟨#[]⟩)]) (i:=2) U U U (HP) by2 ?_)
  refine Qe0 ?_
  refine QK ?_
  refine Zb 31 U U U (Zl (xs:=[.tmp 30,.const (.int .i64 1),.const (.string ⟨#[]⟩)]) (i:=2) U U U (HV) by2 ?_)
  refine Qe0 ?_
  refine Qs ?_
  refine Qt ?_
  refine Qcu ?_
  refine Qai ?_
  refine Zb 37 U U U (Zm (ns:=[0,1]) (xs:=[.const (.int .i64 1),.tmp 36]) U tz_24 U tfl_24 U U U U (Zb 38 U U U (Zm (ns:=[0,1]) (xs:=[.tmp 35,.tmp 37]) U tz_170 U tfl_170 U U U U (Zb 39 U U U (Zf (xs:=[.tmp 38]) el_120 U U U U U U (Wc U) (Zb 40 U U U (Zv (i:=4) el_120 U U U U (.seq _ _) by7 ?_)))))))
  intro u40
  refine Qt ?_
  refine Zr U U (Zp (cs':=[_,_,_,_,_,_,_,_]) (i:=3) U ts_120 U U U U U (Wc U) U ?_)
  refine QdB ?_
  refine Zb 43 U U U (op_mayc (xs:=[.tmp 42,.const (.string ⟨#[44]⟩)]) (i:=2) U U U (may_c b L hL q2 kComma) by2 ?_ ?_)
  ·intro g43
   refine Qbl ?_
   first
   |(rw [if_pos g43] at hu;have l4:=(Yf l2 g43).ok l2;have l5:=(is_lt g43).2;exact ⟨(stepP q2,f,acc++[Pr.mk ct (Ty.mk 1 vt 0 [])],u40,true),⟨l4,(by show L.length - (q2.at_+1)<f;omega),(fun _=>by show (acc++_).length≤q2.at_+1;rw [List.length_append];simp;omega),hu⟩,(by show 2 * f+1<2 * (f+1)+1;omega),Xy rfl (Xu _) by5,(Xq _ (Xq _ (Xq _ (Xs _ (Xw (Xu _) (Xw (Xu _) (Xw (Xu _) (Xw (Xu _) (Xw (Xu _) (Xw (preds_snoc acc ct vt) (Xv _))))))) (Xt rfl)))))⟩)
   |(rw [if_neg g43] at hu;exact ⟨(q2,f+1,acc++[Pr.mk ct (Ty.mk 1 vt 0 [])],u40,false),⟨l2,(by show L.length - q2.at_<f+1;omega),(fun h=>by cases h),hu⟩,(by show 2 * (f+1)+0<2 * (f+1)+1;omega),Xy rfl (Xu _) by5,(Xq _ (Xq _ (Xq _ (Xs _ (Xw (Xu _) (Xw (Xu _) (Xw (Xu _) (Xw (Xu _) (Xw (Xu _) (Xw (preds_snoc acc ct vt) (Xv _))))))) (Xt rfl)))))⟩)
  intro g43
  refine Qbl ?_
  first
  |(rw [if_pos g43] at hu;have l4:=(Yf l2 g43).ok l2;have l5:=(is_lt g43).2;exact ⟨(stepP q2,f,acc++[Pr.mk ct (Ty.mk 1 vt 0 [])],u40,true),⟨l4,(by show L.length - (q2.at_+1)<f;omega),(fun _=>by show (acc++_).length≤q2.at_+1;rw [List.length_append];simp;omega),hu⟩,(by show 2 * f+1<2 * (f+1)+1;omega),Xy rfl (Xu _) by5,(Xq _ (Xq _ (Xq _ (Xs _ (Xw (Xu _) (Xw (Xu _) (Xw (Xu _) (Xw (Xu _) (Xw (Xu _) (Xw (preds_snoc acc ct vt) (Xv _))))))) (Xt rfl)))))⟩)
  |(rw [if_neg g43] at hu;exact ⟨(q2,f+1,acc++[Pr.mk ct (Ty.mk 1 vt 0 [])],u40,false),⟨l2,(by show L.length - q2.at_<f+1;omega),(fun h=>by cases h),hu⟩,(by show 2 * (f+1)+0<2 * (f+1)+1;omega),Xy rfl (Xu _) by5,(Xq _ (Xq _ (Xq _ (Xs _ (Xw (Xu _) (Xw (Xu _) (Xw (Xu _) (Xw (Xu _) (Xw (Xu _) (Xw (preds_snoc acc ct vt) (Xv _))))))) (Xt rfl)))))⟩)
 rintro z hI
 try dsimp only [List.cons_append,List.nil_append] at hI ⊢
 refine Qc ?_
 refine Q0 ?_
 refine Zb 45 U U U (Zl (xs:=[.tmp 44,.const (.int .i64 6),.const (.string ⟨#[119,104,101,114,101]⟩)]) (i:=2) U U U (H4) by2 ?_)
 refine QcG ?_
 refine Yp 130 13 ?_
 apply Yl (rg [(1,1),(3,1),(5,62)]) (σ:=PS × Nat × List Bi × Value) (fun zz=>match zz with|(q,f,bs,v)=>[]) (fun zz=>match zz with|(q,f,bs,v)=>[.loc b3 (Tok.mk tk tt tn ta).av,.loc b2 zIn,.loc b (psC L q),.loc b4 [.val (.string tt),.val (.int .i64 hk),.val (.string hs),.val (.int .i64 hn),.seq 4 (Ty.cellss hl),.seq 5 (Pr.cellss cxs),.own v 13 (Bi.cellss bs),.val (.int .i64 ta)],.own 130 13 v]) (fun zz=>match zz with|(q,f,bs,v)=>POk L 302 q∧(q.e=0→L.length - q.at_<f∧bs.length≤q.at_)∧insL L f q bs=(bl,p5)) (fun zz=>match zz with|(q,f,bs,v)=>f) ((p4,L.length+1,[],.slice none 0 0))
 ·repeat' (first|exact Wf|apply Wd rfl|apply We rfl)
 ·exact ⟨k4,fun _=>⟨by omega,Nat.zero_le _⟩,e5⟩
 ·exact by5
 ·exact (Xq _ (Xq _ (Xq _ (Xs _ (Xw (Xu _) (Xw (Xu _) (Xw (Xu _) (Xw (Xu _) (Xw (Xu _) (Xw (Xu _) (Xw (Le.nilOwn 13) (Xv _)))))))) (Xo _)))))
 rintro ⟨q,f,bs,v⟩ hI
 try dsimp only [List.cons_append,List.nil_append] at hI ⊢
 obtain ⟨i1,i2,hu⟩:=hI
 have hq1:=i1.1
 refine QS ?_
 refine Qdc ?_
 refine Qz ?_;intro c50 h50
 refine Qb ?_
 obtain ⟨rfl,g50⟩|⟨rfl,g50⟩:=Za h50
 ·skip
  refine Qah ?_
  refine Qby ?_
  refine Qa ?_
  refine Qa3 ?_
  refine Qhu ?_
  refine Qhv ?_
  refine Qr ?_
  first
  |(rw [insL_err g50] at hu;cases hu;subst hr;exact Zk (i:=1) rfl rfl rfl ta_122 rfl by1 (Xr _ (Xr _ (Xq _ (Xp _)))) ⟨rfl,rfl⟩)
  |(obtain ⟨f,rfl⟩:∃ f',f=f'+1:=⟨f - 1,by have:=(i2 g50).1;omega⟩;rw [insL_end g50 g53] at hu;cases hu;subst hr;exact Zk (i:=1) rfl rfl rfl ta_122 rfl by1 (Xr _ (Xr _ (Xq _ (Xp _)))) ⟨rfl,rfl⟩)
 skip
 refine Qf ?_
 refine Zo 53 U U U U U (op_mayc (xs:=[.tmp 52,.const (.string ⟨#[101,110,100]⟩)]) (i:=2) U U U (may_c b L hL q kEnd) by2 ?_ ?_)
 ·intro g53
  refine Qal ?_;intro c54 h54
  try replace h54:=Ym h54 h53
  obtain rfl:c54=false:=by
   cases c54 with
   | false=>rfl
   | true=>exact absurd (h54.1 rfl) by16
  refine Qby ?_
  refine Qa ?_
  refine Qa3 ?_
  refine Qhu ?_
  refine Qhv ?_
  refine Qr ?_
  first
  |(rw [insL_err g50] at hu;cases hu;subst hr;exact Zk (i:=1) rfl rfl rfl ta_122 rfl by1 (Xr _ (Xr _ (Xq _ (Xp _)))) ⟨rfl,rfl⟩)
  |(obtain ⟨f,rfl⟩:∃ f',f=f'+1:=⟨f - 1,by have:=(i2 g50).1;omega⟩;rw [insL_end g50 g53] at hu;cases hu;subst hr;exact Zk (i:=1) rfl rfl rfl ta_122 rfl by1 (Xr _ (Xr _ (Xq _ (Xp _)))) ⟨rfl,rfl⟩)
 intro g53
 refine Qal ?_;intro c54 h54
 try replace h54:=Ym h54 h53
 obtain rfl:c54=true:=h54.2 rfl
 refine Qby ?_
 refine Qa ?_
 refine Qdq ?_
 obtain ⟨i3,i4⟩:=i2 g50
 have hl2:(Bi.cellss bs).length≤200000:=by rw [Bi.cellss_len];omega
 obtain ⟨f,rfl⟩:∃ f',f=f'+1:=⟨f - 1,by omega⟩
 rw [insL,if_neg (by rw [g50];simp),if_neg g53] at hu
 have HD:=take_c b L hL q hq1 6 kDef
 have l1:=(Zn (kind:=6) (s:=kDef) by16 i1).ok i1
 have b1:=(Zn (L:=L) (kind:=6) (s:=kDef) by16 i1).1
 obtain ⟨⟨u7,q1⟩,f1⟩:∃ r,takeP L q 6 kDef=r:=⟨_,rfl⟩
 rw [f1] at HD l1 b1 hu
 simp only [] at HD l1 b1 hu
 have HB:=bindP_c b L hL q1 l1
 have l2:=(bindP_adv l1).ok l1
 have b2':=(bindP_adv l1).1
 obtain ⟨⟨⟨bn,⟨xk,xs,xn,⟨xtk,xts,xtn,xtl⟩,xks,xal,xbs,xp⟩,bp⟩,q2⟩,f2⟩:∃ r,bindP L q1=r:=⟨_,rfl⟩
 rw [f2] at HB l2 b2' hu
 simp only [Bi.cells,Ex.cells,Ty.cells,List.cons_append,List.nil_append] at HB l2 b2' hu
 have HS:=take_c b L hL q2 l2.1 7 kSemi
 have hpr:=take_prog (L:=L) (p:=q2) (kind:=7) (s:=kSemi) by16
 have l5:=(Zn (kind:=7) (s:=kSemi) by16 l2).ok l2
 obtain ⟨⟨u6,q5⟩,f5⟩:∃ r,takeP L q2 7 kSemi=r:=⟨_,rfl⟩
 rw [f5] at HS hpr l5 hu
 simp only [Prod.mk.injEq] at HS hpr l5 hu
 refine Qh ?_
 refine Zb 57 U U U (Zl (xs:=[.tmp 56,.const (.int .i64 6),.const (.string ⟨#[100,101,102]⟩)]) (i:=2) U U U (HD) by2 ?_)
 refine Qy ?_
 refine Qfe ?_
 refine QW ?_
 refine Qht ?_
 refine Qw ?_
 refine Yc 2 (i:=3) U U U U U (Zl (xs:=[.tmp 60]) (i:=0) U U U (HB) by2 ⟨_,U,?_⟩)
 refine Zi 62 (none) (i:=4) U U U U U (Zf (xs:=[.tmp 61]) el_79 U U U U U U (Wc U) ⟨U,U⟩) ?_
 refine Yc 4 (i:=5) U U U U U (Zv (i:=0) el_79 U U U U (.seq _ _) by7 (fun u63=>⟨_,U,?_⟩))
 refine QW ?_
 refine Yc 3 (i:=7) U U U U U (Zp (cs':=[_,_,_,_,_,_,_,_]) (i:=0) U ts_79 U U U U U (Wc U) U ⟨_,U,?_⟩)
 show AGo _ _ _ _ _ _ _
 refine Qc ?_
 refine Qh ?_
 refine Zb 66 U U U (Zl (xs:=[.tmp 65,.const (.int .i64 7),.const (.string ⟨#[59]⟩)]) (i:=2) U U U (HS) by2 ?_)
 refine Qbc ?_
 exact ⟨(q5,f,bs++[Bi.mk bn (Ex.mk xk xs xn (Ty.mk xtk xts xtn xtl) xks xal xbs xp) bp],u63),⟨l5,(fun e=>by obtain ⟨⟨_,h5⟩,_,h6⟩:=hpr e;rw [h5];refine ⟨?_,?_⟩;(show L.length - (q2.at_+1)<f;omega);(show (bs++_).length≤q2.at_+1;rw [List.length_append];simp;omega)),hu⟩,Nat.lt_succ_self f,by5,(Xq _ (Xq _ (Xq _ (Xs _ (Xw (Xu _) (Xw (Xu _) (Xw (Xu _) (Xw (Xu _) (Xw (Xu _) (Xw (Xu _) (Xw (Wb by10) (Xv _)))))))) (Xt rfl)))))⟩
theorem inst_c (b:Nat) (L:List Tok) (hL:L.length≤100000) (p:PS) (k:POk L 302 p):MCall Tryz.prog 58 [.ptr b 0] (.loc b (psC L p)) (.agg (instP L p).1.cells) (.loc b (psC L (instP L p).2)):=inst_b b L hL p k _ rfl
theorem begin_c (s:ByteArray):ACall Tryz.prog 53 [.val (.string s)] [] (fun v M'=>∃ b,v=.ptr b 0∧M'=[.loc b (psC (scanT s).1 (beginP (scanT s)))]):=by
 have HS:=Scan_c s
 obtain ⟨⟨L,e,w⟩,hs⟩:∃ r,scanT s=r:=⟨_,rfl⟩
 rw [hs] at HS ⊢
 have HF:=fun b=>fail_c b L ⟨0,0,0,0⟩ e w
 unfold beginP
 simp only [scanR] at HS ⊢
 refine Zc Tryz.func53 U (by kernel_rfl) U (Wc U) ?_
 refine Qe ?_
 refine QK ?_
 refine Zb 9 U U U (Zd (xs:=[.tmp 8]) U U (HS) by2 ?_)
 refine QcY ?_
 refine QcA ?_
 refine QK ?_
 refine Zb 14 U U U (Zm (ns:=[0]) (xs:=[.tmp 13]) U tz_107 U tfl_107 U U U U (Zb 15 U U U (op_boxe (cs':=[_,_,_,_,_]) U U U U ?_)));intro b15
 refine QU ?_
 refine QP ?_;intro c17 h17
 refine Qa ?_
 obtain ⟨rfl,g17⟩|⟨rfl,g17⟩:=Za h17
 ·refine Qau ?_
  refine Qo ?_
  first
  |(rw [if_pos g17];exact Ze rfl rfl (Xu _) (Xt rfl) ⟨b15,rfl,rfl⟩)
  |(rw [if_neg g17];exact Ze rfl rfl (Xu _) (Xt rfl) ⟨b15,rfl,rfl⟩)
 refine Q4 ?_
 refine QaO ?_
 refine Zb 21 U U U (Zl (xs:=[.tmp 18,.tmp 19,.tmp 20]) (i:=0) U U U (HF b15) by2 ?_)
 refine QB ?_
 refine Qo ?_
 first
 |(rw [if_pos g17];exact Ze rfl rfl (Xu _) (Xt rfl) ⟨b15,rfl,rfl⟩)
 |(rw [if_neg g17];exact Ze rfl rfl (Xu _) (Xt rfl) ⟨b15,rfl,rfl⟩)
theorem progL_end {L:List Tok} {f:Nat} {p:PS} {x:Pg} (h:p.e≠0∨(nxt L p).k=0):progL L f p x=(x,p):=by
 cases f with
 | zero=>rfl
 | succ f=>rw [progL,if_pos h]
theorem Da.cellss_app' (a b:List Da):Da.cellss (a++b)=Da.cellss a++Da.cellss b:=by simp [Da.cellss]
theorem Cl.cellss_app' (a b:List Cl):Cl.cellss (a++b)=Cl.cellss a++Cl.cellss b:=by simp [Cl.cellss]
theorem In.cellss_app' (a b:List In):In.cellss (a++b)=In.cellss a++In.cellss b:=by simp [In.cellss]
abbrev zPg:List AV:=[.val (.slice none 0 0),.val (.slice none 0 0),.val (.slice none 0 0),.val (.slice none 0 0)]
def progR (o:Pg × Int × Int):AV:=.tup [.agg o.1.cells,.val (.int .i64 o.2.1),.val (.int .i64 o.2.2)]
theorem begin_ok (s:ByteArray):POk (scanT s).1 302 (beginP (scanT s)):=by
 have h:∀ e w,POk (scanT s).1 302 (failP ⟨0,0,0,0⟩ e w):=fun e w=>by
  unfold failP
  refine ⟨?_,?_,?_,fun _=>⟨?_,?_⟩⟩ <;> simp
 unfold beginP
 split
 ·exact h _ _
 refine ⟨?_,?_,?_,fun _=>⟨?_,?_⟩⟩ <;> simp
theorem Prog_c (s:ByteArray):PCall Tryz.prog 37 [.val (.string s)] (progR (progT s)):=by
 have HB:=begin_c s
 have hL:=scanT_len s
 have k0:=begin_ok s
 obtain ⟨r,hr⟩:∃ r,progT s=r:=⟨_,rfl⟩
 rw [hr]
 unfold progT at hr
 simp only [] at hr
 obtain ⟨L,hLe⟩:∃ L,(scanT s).1=L:=⟨_,rfl⟩
 obtain ⟨p0,hp0⟩:∃ p,beginP (scanT s)=p:=⟨_,rfl⟩
 rw [hLe,hp0] at HB k0 hr
 rw [hLe] at hL
 have hL:L.length≤100000:=by omega
 obtain ⟨⟨⟨fd,fc,fi,fb⟩,p9⟩,e9⟩:∃ r,progL L (L.length+1) p0 pg0=r:=⟨_,rfl⟩
 rw [e9] at hr
 simp only [] at hr
 refine Zc Tryz.func37 U (by kernel_rfl) U (Wc U) ?_
 refine Qe ?_
 refine Qf7 ?_;intro b2
 refine QJ ?_
 refine QK ?_
 refine Zb 8 U U U (op_callat [] (xs:=[.tmp 7]) U U U (HB) by2 ?_)
 rintro v M' ⟨b,rfl,rfl⟩
 refine Qs ?_
 refine Zb 9 U U U (Zm (ns:=[]) (xs:=[]) U tz_81 U tfl_81 U U U U ?_)
 refine Qf7 ?_;intro b6
 refine Qhw ?_
 refine QcG ?_
 refine Yp 114 5 (Yp 118 6 (Yp 122 8 (Yp 130 13 ?_)))
 apply Yl (rg [(0,2),(7,52)]) (σ:=PS × Nat × Pg × Value × Value × Value × Value) (fun zz=>match zz with|(q,f,Pg.mk da cl ins bs,u1,u2,u3,u4)=>[]) (fun zz=>match zz with|(q,f,Pg.mk da cl ins bs,u1,u2,u3,u4)=>[.loc b6 [.own u1 5 (Da.cellss da),.own u2 6 (Cl.cellss cl),.own u3 8 (In.cellss ins),.own u4 13 (Bi.cellss bs)],.loc b (psC L q),.loc b2 zPg,.own 114 5 u1,.own 118 6 u2,.own 122 8 u3,.own 130 13 u4]) (fun zz=>match zz with|(q,f,Pg.mk da cl ins bs,u1,u2,u3,u4)=>POk L 302 q∧(q.e=0→L.length - q.at_<f∧da.length+cl.length+ins.length+bs.length≤q.at_)∧progL L f q (Pg.mk da cl ins bs)=(Pg.mk fd fc fi fb,p9)) (fun zz=>match zz with|(q,f,Pg.mk da cl ins bs,u1,u2,u3,u4)=>f) ((p0,L.length+1,Pg.mk [] [] [] [],.slice none 0 0,.slice none 0 0,.slice none 0 0,.slice none 0 0))
 ·repeat' (first|exact Wf|apply Wd rfl|apply We rfl)
 ·exact ⟨k0,fun _=>⟨by omega,Nat.zero_le _⟩,e9⟩
 ·exact by5
 ·exact (Xs _ (Xw (Le.nilOwn 5) (Xw (Le.nilOwn 6) (Xw (Le.nilOwn 8) (Xw (Le.nilOwn 13) (Xv _))))) (Xt U))
 rintro ⟨q,f,⟨da,cl,ins,bs⟩,u1,u2,u3,u4⟩ hI
 try dsimp only [List.cons_append,List.nil_append] at hI ⊢
 obtain ⟨i1,i2,hu⟩:=hI
 have hq1:=i1.1
 have HN:=next_c b L q
 have hend:=fun h=>progL_end (L:=L) (f:=f) (p:=q) (x:=Pg.mk da cl ins bs) h
 obtain ⟨⟨qk,qt,qn,qa⟩,hqt⟩:∃ t,nxt L q=t:=⟨_,rfl⟩
 have hgo:∀ f x,q.e=0→qk≠0→progL L (f+1) q x=progL L f (takeP L (declP L q x).2 7 kSemi).2 (declP L q x).1:=fun f x h1 h2=>by
  rw [progL,hqt,if_neg (fun h=>by rcases h with h|h;exact h h1;exact h2 h)]
 rw [hqt] at HN hend
 simp only [Tok.av] at HN hend
 refine QaJ ?_
 refine Zw 20 (q.e=0∧qk≠0) ?_ _ _ U ?_
 ·skip
  refine Qb ?_
  refine QdW ?_
  refine Qdm ?_;intro c14 h14
  refine Qb ?_
  obtain ⟨rfl,g14⟩|⟨rfl,g14⟩:=Za h14
  ·skip
   refine QaX ?_
   refine Wa U ?_ by6 by4
   clear HN hend hgo HB;first|(simp_all;done)|grind
  skip
  refine Qf ?_
  refine Zo 17 U U U U U (Yq (xs:=[.tmp 16]) [1] U U U (HN) by2 ?_)
  refine Qhx ?_
  refine Qax ?_;intro c19 h19
  refine Qm ?_
  refine Wa U ?_ by6 by4
  clear HN hend hgo HB;first|(simp_all;done)|grind
 intro c20 h20
 refine Qc ?_
 obtain ⟨rfl,g20⟩|⟨rfl,g20⟩:=Za h20
 ·refine Qbs ?_
  have hx2:q.e≠0∨qk=0:=by
   rcases Classical.em (q.e=0) with h|h
   ·exact .inr (Classical.not_not.1 fun h2=>g20 ⟨h,h2⟩)
   exact .inl h
  rw [hend hx2] at hu
  cases hu
  refine Qh ?_
  refine QdE ?_;intro c63 h63
  refine Qa ?_
  obtain ⟨rfl,g63⟩|⟨rfl,g63⟩:=Za h63
  ·refine QV ?_
   refine Zb 73 U U U (Zs (cs':=[_,_,_,_]) (i:=0) U ta_81 U U U U (Zr U U (Zp (cs':=[_,_,_,_]) (i:=2) U ts_81 U U U U U (Wc U) U ?_)))
   refine Qac ?_
   rw [if_neg g63] at hr;subst hr;exact Yg (i:=2) rfl rfl rfl rfl rfl ta_81 rfl by1 (Xp _) ⟨rfl,rfl⟩
  refine QM ?_
  refine Qhy ?_
  refine Zi 64 (none) (i:=0) U U U U U (Zm (ns:=[]) (xs:=[]) U tz_81 U tfl_81 U U U U ⟨U,U⟩) ?_
  refine Qw ?_
  refine Qei ?_
  refine QW ?_
  refine QdR ?_
  refine Qw ?_
  refine Qei ?_
  refine QW ?_
  refine QdR ?_
  refine Yc 2 (i:=9) U U U U U (Zp (cs':=[_,_,_,_]) (i:=0) U ts_81 U U U U U (Wc U) U ⟨_,U,?_⟩)
  refine QZ ?_
  refine QZ ?_
  show AGo _ _ _ _ _ _ _
  refine QI ?_
  rw [if_pos g63] at hr;subst hr;exact Yg (i:=2) rfl rfl rfl rfl rfl ta_81 rfl by1 (Xp _) ⟨rfl,rfl⟩
 refine Qbk ?_
 refine QaJ ?_
 obtain ⟨i3,i4⟩:=i2 g20.1
 have hl1:(Da.cellss da).length≤200000:=by rw [Da.cellss_len];omega
 have hl2:(Cl.cellss cl).length≤200000:=by rw [Cl.cellss_len];omega
 have hl3:(In.cellss ins).length≤200000:=by rw [In.cellss_len];omega
 have hl4:(Bi.cellss bs).length≤200000:=by rw [Bi.cellss_len];omega
 obtain ⟨f,rfl⟩:∃ f',f=f'+1:=⟨f - 1,by omega⟩
 rw [hgo f _ g20.1 g20.2] at hu
 have l2:=(decl_adv (Pg.mk da cl ins bs) i1).ok i1
 have b2':=(decl_adv (Pg.mk da cl ins bs) i1).1
 obtain ⟨⟨x,q2⟩,hx⟩:∃ r,declP L q (Pg.mk da cl ins bs)=r:=⟨_,rfl⟩
 have hx0:=hx
 unfold declP at hx
 rw [hx0] at hu l2 b2'
 simp only [Pg.da,Pg.cl,Pg.ins,Pg.bs] at hu l2 b2' hx
 have HS:=take_c b L hL q2 l2.1 7 kSemi
 have hpr:=take_prog (L:=L) (p:=q2) (kind:=7) (s:=kSemi) by16
 have l5:=(Zn (kind:=7) (s:=kSemi) by16 l2).ok l2
 obtain ⟨⟨u6,q5⟩,f5⟩:∃ r,takeP L q2 7 kSemi=r:=⟨_,rfl⟩
 rw [f5] at HS hpr l5 hu
 simp only [Prod.mk.injEq] at HS hpr l5 hu
 refine Qh ?_
 refine Zb 22 U U U (op_mayc (xs:=[.tmp 21,.const (.string ⟨#[100,97,116,97]⟩)]) (i:=1) U U U (may_c b L hL q kData) by2 ?_ ?_)
 ·intro g22
  refine Qa ?_
  refine Q4 ?_
  rw [if_pos g22] at hx
  have HX:=data_c b L hL (stepP q) ((Yf i1 g22).ok i1)
  obtain ⟨⟨⟨xs,xps,xcs,xdv,xp⟩,q3⟩,e3⟩:∃ r,dataP L (stepP q)=r:=⟨_,rfl⟩
  rw [e3] at HX hx
  cases hx
  refine Qck ?_
  refine Yc 1 (i:=3) U U U U U (Zl (xs:=[.tmp 25]) (i:=0) U U U (HX) by2 ⟨_,U,?_⟩)
  refine Zi 27 (none) (i:=4) U U U U U (Zf (xs:=[.tmp 26]) el_37 U U U U U U (Wc U) ⟨U,U⟩) ?_
  refine Yc 3 (i:=5) U U U U U (Zv (i:=0) el_37 U U U U (.seq _ _) by7 (fun u28=>⟨_,U,?_⟩))
  refine QW ?_
  refine Yc 0 (i:=7) U U U U U (Zp (cs':=[_,_,_,_]) (i:=0) U ts_37 U U U U U (Wc U) U ⟨_,U,?_⟩)
  show AGo _ _ _ _ _ _ _
  refine Qc ?_
  refine Qh ?_
  refine Zb 58 U U U (Zl (xs:=[.tmp 57,.const (.int .i64 7),.const (.string ⟨#[59]⟩)]) (i:=1) U U U (HS) by2 ?_)
  refine Qbc ?_
  first
  | exact ⟨(q5,f,Pg.mk (da++[Da.mk xs xps xcs xdv xp]) cl ins bs,u28,u2,u3,u4),⟨l5,(fun e=>by obtain ⟨⟨_,h5⟩,_,h6⟩:=hpr e;have b3:q.at_≤q3.at_:=b2';rw [h5];simp only [stepP,List.length_append,List.length_singleton];omega),hu⟩,Nat.lt_succ_self f,by5,(Xs _ (Xw (Wb (by rw [Da.cellss_app'];rfl)) (Xv _)) (Xt rfl))⟩
  | exact ⟨(q5,f,Pg.mk da (cl++[Cl.mk xs xv xsu xms xds xp]) ins bs,u1,u37,u3,u4),⟨l5,(fun e=>by obtain ⟨⟨_,h5⟩,_,h6⟩:=hpr e;have b3:q.at_≤q3.at_:=b2';rw [h5];simp only [stepP,List.length_append,List.length_singleton];omega),hu⟩,Nat.lt_succ_self f,by5,(Xs _ (Xw (Xu _) (Xw (Wb (by rw [Cl.cellss_app'];rfl)) (Xv _))) (Xt rfl))⟩
  | exact ⟨(q5,f,Pg.mk da cl (ins++[In.mk xc (Ty.mk xhk xhs xhn xhl) xcx xbs xp]) bs,u1,u2,u46,u4),⟨l5,(fun e=>by obtain ⟨⟨_,h5⟩,_,h6⟩:=hpr e;have b3:q.at_≤q3.at_:=b2';rw [h5];simp only [stepP,List.length_append,List.length_singleton];omega),hu⟩,Nat.lt_succ_self f,by5,(Xs _ (Xw (Xu _) (Xw (Xu _) (Xw (Wb (by rw [In.cellss_app'];rfl)) (Xv _)))) (Xt rfl))⟩
  | exact ⟨(q5,f,Pg.mk da cl ins (bs++[Bi.mk bn (Ex.mk xk xs xn (Ty.mk xtk xts xtn xtl) xks xal xbs xp) bp]),u1,u2,u3,u55),⟨l5,(fun e=>by obtain ⟨⟨_,h5⟩,_,h6⟩:=hpr e;have b3:q.at_≤q3.at_:=b2';rw [h5];simp only [stepP,List.length_append,List.length_singleton];omega),hu⟩,Nat.lt_succ_self f,by5,(Xs _ (Xw (Xu _) (Xw (Xu _) (Xw (Xu _) (Xw (Wb by10) (Xv _))))) (Xt rfl))⟩
 intro g22
 refine Qa ?_
 refine QX ?_
 refine Q0 ?_
 refine Zb 31 U U U (op_mayc (xs:=[.tmp 30,.const (.string ⟨#[99,108,97,115,115]⟩)]) (i:=1) U U U (may_c b L hL q kClass) by2 ?_ ?_)
 ·intro g31
  refine Qa ?_
  refine Q4 ?_
  rw [if_neg g22,if_pos g31] at hx
  have HX:=class_c b L hL (stepP q) ((Yf i1 g31).ok i1)
  obtain ⟨⟨⟨xs,xv,xsu,xms,xds,xp⟩,q3⟩,e3⟩:∃ r,classP L (stepP q)=r:=⟨_,rfl⟩
  rw [e3] at HX hx
  cases hx
  refine Qck ?_
  refine Yc 1 (i:=3) U U U U U (Zl (xs:=[.tmp 34]) (i:=0) U U U (HX) by2 ⟨_,U,?_⟩)
  refine Zi 36 (none) (i:=4) U U U U U (Zf (xs:=[.tmp 35]) el_38 U U U U U U (Wc U) ⟨U,U⟩) ?_
  refine Yc 4 (i:=5) U U U U U (Zv (i:=0) el_38 U U U U (.seq _ _) by7 (fun u37=>⟨_,U,?_⟩))
  refine QW ?_
  refine Yc 0 (i:=7) U U U U U (Zp (cs':=[_,_,_,_]) (i:=0) U ts_38 U U U U U (Wc U) U ⟨_,U,?_⟩)
  show AGo _ _ _ _ _ _ _
  refine Qc ?_
  refine Qh ?_
  refine Zb 58 U U U (Zl (xs:=[.tmp 57,.const (.int .i64 7),.const (.string ⟨#[59]⟩)]) (i:=1) U U U (HS) by2 ?_)
  refine Qbc ?_
  first
  | exact ⟨(q5,f,Pg.mk (da++[Da.mk xs xps xcs xdv xp]) cl ins bs,u28,u2,u3,u4),⟨l5,(fun e=>by obtain ⟨⟨_,h5⟩,_,h6⟩:=hpr e;have b3:q.at_≤q3.at_:=b2';rw [h5];simp only [stepP,List.length_append,List.length_singleton];omega),hu⟩,Nat.lt_succ_self f,by5,(Xs _ (Xw (Wb (by rw [Da.cellss_app'];rfl)) (Xv _)) (Xt rfl))⟩
  | exact ⟨(q5,f,Pg.mk da (cl++[Cl.mk xs xv xsu xms xds xp]) ins bs,u1,u37,u3,u4),⟨l5,(fun e=>by obtain ⟨⟨_,h5⟩,_,h6⟩:=hpr e;have b3:q.at_≤q3.at_:=b2';rw [h5];simp only [stepP,List.length_append,List.length_singleton];omega),hu⟩,Nat.lt_succ_self f,by5,(Xs _ (Xw (Xu _) (Xw (Wb (by rw [Cl.cellss_app'];rfl)) (Xv _))) (Xt rfl))⟩
  | exact ⟨(q5,f,Pg.mk da cl (ins++[In.mk xc (Ty.mk xhk xhs xhn xhl) xcx xbs xp]) bs,u1,u2,u46,u4),⟨l5,(fun e=>by obtain ⟨⟨_,h5⟩,_,h6⟩:=hpr e;have b3:q.at_≤q3.at_:=b2';rw [h5];simp only [stepP,List.length_append,List.length_singleton];omega),hu⟩,Nat.lt_succ_self f,by5,(Xs _ (Xw (Xu _) (Xw (Xu _) (Xw (Wb (by rw [In.cellss_app'];rfl)) (Xv _)))) (Xt rfl))⟩
  | exact ⟨(q5,f,Pg.mk da cl ins (bs++[Bi.mk bn (Ex.mk xk xs xn (Ty.mk xtk xts xtn xtl) xks xal xbs xp) bp]),u1,u2,u3,u55),⟨l5,(fun e=>by obtain ⟨⟨_,h5⟩,_,h6⟩:=hpr e;have b3:q.at_≤q3.at_:=b2';rw [h5];simp only [stepP,List.length_append,List.length_singleton];omega),hu⟩,Nat.lt_succ_self f,by5,(Xs _ (Xw (Xu _) (Xw (Xu _) (Xw (Xu _) (Xw (Wb by10) (Xv _))))) (Xt rfl))⟩
 intro g31
 refine Qa ?_
 refine QX ?_
 refine Q0 ?_
 refine Zb 40 U U U (op_mayc (xs:=[.tmp 39,.const (.string ⟨#[105,110,115,116,97,110,99,101]⟩)]) (i:=1) U U U (may_c b L hL q kInst) by2 ?_ ?_)
 ·intro g40
  refine Qa ?_
  refine Q4 ?_
  rw [if_neg g22,if_neg g31,if_pos g40] at hx
  have HX:=inst_c b L hL (stepP q) ((Yf i1 g40).ok i1)
  obtain ⟨⟨⟨xc,⟨xhk,xhs,xhn,xhl⟩,xcx,xbs,xp⟩,q3⟩,e3⟩:∃ r,instP L (stepP q)=r:=⟨_,rfl⟩
  rw [e3] at HX hx
  simp only [In.cells,Ty.cells,List.cons_append,List.nil_append] at HX
  cases hx
  refine Qck ?_
  refine Yc 1 (i:=3) U U U U U (Zl (xs:=[.tmp 43]) (i:=0) U U U (HX) by2 ⟨_,U,?_⟩)
  refine Zi 45 (none) (i:=4) U U U U U (Zf (xs:=[.tmp 44]) el_39 U U U U U U (Wc U) ⟨U,U⟩) ?_
  refine Yc 5 (i:=5) U U U U U (Zv (i:=0) el_39 U U U U (.seq _ _) by7 (fun u46=>⟨_,U,?_⟩))
  refine QW ?_
  refine Yc 0 (i:=7) U U U U U (Zp (cs':=[_,_,_,_]) (i:=0) U ts_39 U U U U U (Wc U) U ⟨_,U,?_⟩)
  show AGo _ _ _ _ _ _ _
  refine Qc ?_
  refine Qh ?_
  refine Zb 58 U U U (Zl (xs:=[.tmp 57,.const (.int .i64 7),.const (.string ⟨#[59]⟩)]) (i:=1) U U U (HS) by2 ?_)
  refine Qbc ?_
  first
  | exact ⟨(q5,f,Pg.mk (da++[Da.mk xs xps xcs xdv xp]) cl ins bs,u28,u2,u3,u4),⟨l5,(fun e=>by obtain ⟨⟨_,h5⟩,_,h6⟩:=hpr e;have b3:q.at_≤q3.at_:=b2';rw [h5];simp only [stepP,List.length_append,List.length_singleton];omega),hu⟩,Nat.lt_succ_self f,by5,(Xs _ (Xw (Wb (by rw [Da.cellss_app'];rfl)) (Xv _)) (Xt rfl))⟩
  | exact ⟨(q5,f,Pg.mk da (cl++[Cl.mk xs xv xsu xms xds xp]) ins bs,u1,u37,u3,u4),⟨l5,(fun e=>by obtain ⟨⟨_,h5⟩,_,h6⟩:=hpr e;have b3:q.at_≤q3.at_:=b2';rw [h5];simp only [stepP,List.length_append,List.length_singleton];omega),hu⟩,Nat.lt_succ_self f,by5,(Xs _ (Xw (Xu _) (Xw (Wb (by rw [Cl.cellss_app'];rfl)) (Xv _))) (Xt rfl))⟩
  | exact ⟨(q5,f,Pg.mk da cl (ins++[In.mk xc (Ty.mk xhk xhs xhn xhl) xcx xbs xp]) bs,u1,u2,u46,u4),⟨l5,(fun e=>by obtain ⟨⟨_,h5⟩,_,h6⟩:=hpr e;have b3:q.at_≤q3.at_:=b2';rw [h5];simp only [stepP,List.length_append,List.length_singleton];omega),hu⟩,Nat.lt_succ_self f,by5,(Xs _ (Xw (Xu _) (Xw (Xu _) (Xw (Wb (by rw [In.cellss_app'];rfl)) (Xv _)))) (Xt rfl))⟩
  | exact ⟨(q5,f,Pg.mk da cl ins (bs++[Bi.mk bn (Ex.mk xk xs xn (Ty.mk xtk xts xtn xtl) xks xal xbs xp) bp]),u1,u2,u3,u55),⟨l5,(fun e=>by obtain ⟨⟨_,h5⟩,_,h6⟩:=hpr e;have b3:q.at_≤q3.at_:=b2';rw [h5];simp only [stepP,List.length_append,List.length_singleton];omega),hu⟩,Nat.lt_succ_self f,by5,(Xs _ (Xw (Xu _) (Xw (Xu _) (Xw (Xu _) (Xw (Wb by10) (Xv _))))) (Xt rfl))⟩
 intro g40
 refine Qa ?_
 refine QX ?_
 refine Q2 ?_
 rw [if_neg g22,if_neg g31,if_neg g40] at hx
 have HD:=take_c b L hL q hq1 6 kDef
 have l1:=(Zn (kind:=6) (s:=kDef) by16 i1).ok i1
 obtain ⟨⟨u7,q1⟩,f1⟩:∃ r,takeP L q 6 kDef=r:=⟨_,rfl⟩
 rw [f1] at HD l1 hx
 simp only [] at HD l1 hx
 have HX:=bindP_c b L hL q1 l1
 obtain ⟨⟨⟨bn,⟨xk,xs,xn,⟨xtk,xts,xtn,xtl⟩,xks,xal,xbs,xp⟩,bp⟩,q3⟩,e3⟩:∃ r,bindP L q1=r:=⟨_,rfl⟩
 rw [e3] at HX hx
 simp only [Bi.cells,Ex.cells,Ty.cells,List.cons_append,List.nil_append] at HX
 cases hx
 refine Qh ?_
 refine Zb 49 U U U (Zl (xs:=[.tmp 48,.const (.int .i64 6),.const (.string ⟨#[100,101,102]⟩)]) (i:=1) U U U (HD) by2 ?_)
 refine Qa ?_
 refine Qck ?_
 refine Yc 1 (i:=3) U U U U U (Zl (xs:=[.tmp 52]) (i:=0) U U U (HX) by2 ⟨_,U,?_⟩)
 refine Zi 54 (none) (i:=4) U U U U U (Zf (xs:=[.tmp 53]) el_79 U U U U U U (Wc U) ⟨U,U⟩) ?_
 refine Yc 6 (i:=5) U U U U U (Zv (i:=0) el_79 U U U U (.seq _ _) by7 (fun u55=>⟨_,U,?_⟩))
 refine QW ?_
 refine Yc 0 (i:=7) U U U U U (Zp (cs':=[_,_,_,_]) (i:=0) U ts_79 U U U U U (Wc U) U ⟨_,U,?_⟩)
 show AGo _ _ _ _ _ _ _
 refine Qc ?_
 refine Qh ?_
 refine Zb 58 U U U (Zl (xs:=[.tmp 57,.const (.int .i64 7),.const (.string ⟨#[59]⟩)]) (i:=1) U U U (HS) by2 ?_)
 refine Qbc ?_
 first
 | exact ⟨(q5,f,Pg.mk (da++[Da.mk xs xps xcs xdv xp]) cl ins bs,u28,u2,u3,u4),⟨l5,(fun e=>by obtain ⟨⟨_,h5⟩,_,h6⟩:=hpr e;have b3:q.at_≤q3.at_:=b2';rw [h5];simp only [stepP,List.length_append,List.length_singleton];omega),hu⟩,Nat.lt_succ_self f,by5,(Xs _ (Xw (Wb (by rw [Da.cellss_app'];rfl)) (Xv _)) (Xt rfl))⟩
 | exact ⟨(q5,f,Pg.mk da (cl++[Cl.mk xs xv xsu xms xds xp]) ins bs,u1,u37,u3,u4),⟨l5,(fun e=>by obtain ⟨⟨_,h5⟩,_,h6⟩:=hpr e;have b3:q.at_≤q3.at_:=b2';rw [h5];simp only [stepP,List.length_append,List.length_singleton];omega),hu⟩,Nat.lt_succ_self f,by5,(Xs _ (Xw (Xu _) (Xw (Wb (by rw [Cl.cellss_app'];rfl)) (Xv _))) (Xt rfl))⟩
 | exact ⟨(q5,f,Pg.mk da cl (ins++[In.mk xc (Ty.mk xhk xhs xhn xhl) xcx xbs xp]) bs,u1,u2,u46,u4),⟨l5,(fun e=>by obtain ⟨⟨_,h5⟩,_,h6⟩:=hpr e;have b3:q.at_≤q3.at_:=b2';rw [h5];simp only [stepP,List.length_append,List.length_singleton];omega),hu⟩,Nat.lt_succ_self f,by5,(Xs _ (Xw (Xu _) (Xw (Xu _) (Xw (Wb (by rw [In.cellss_app'];rfl)) (Xv _)))) (Xt rfl))⟩
 | exact ⟨(q5,f,Pg.mk da cl ins (bs++[Bi.mk bn (Ex.mk xk xs xn (Ty.mk xtk xts xtn xtl) xks xal xbs xp) bp]),u1,u2,u3,u55),⟨l5,(fun e=>by obtain ⟨⟨_,h5⟩,_,h6⟩:=hpr e;have b3:q.at_≤q3.at_:=b2';rw [h5];simp only [stepP,List.length_append,List.length_singleton];omega),hu⟩,Nat.lt_succ_self f,by5,(Xs _ (Xw (Xu _) (Xw (Xu _) (Xw (Xu _) (Xw (Wb by10) (Xv _))))) (Xt rfl))⟩
def typeT (s:ByteArray):Ty × Int × Int :=
 let r:=typeP (scanT s).1 (beginP (scanT s))
 let p:=(takeP (scanT s).1 r.2 0 kE).2
 if p.e≠0 then (ty0,p.e,p.wh) else (r.1,0,0)
theorem rTypeT_c (s:ByteArray):PCall Tryz.prog 126 [.val (.string s)] (.tup [.agg (typeT s).1.cells,.val (.int .i64 (typeT s).2.1),.val (.int .i64 (typeT s).2.2)]):=by
 have HB:=begin_c s
 have hL:=scanT_len s
 have k0:=begin_ok s
 obtain ⟨r,hr⟩:∃ r,typeT s=r:=⟨_,rfl⟩
 rw [hr]
 unfold typeT at hr
 simp only [] at hr
 obtain ⟨L,hLe⟩:∃ L,(scanT s).1=L:=⟨_,rfl⟩
 obtain ⟨p0,hp0⟩:∃ p,beginP (scanT s)=p:=⟨_,rfl⟩
 rw [hLe,hp0] at HB k0 hr
 rw [hLe] at hL
 replace hL:L.length≤100000:=by omega
 have HT:=fun b=>typeP_c b L hL _ p0 k0
 have k1:=(typeP_adv k0).2.1
 generalize typeP L p0=r1 at *
 obtain ⟨⟨tk,tn,tm,tl⟩,p1⟩:=r1
 replace HT:∀ b,MCall Tryz.prog 104 [.ptr b 0] (.loc b (psC L p0)) (.agg (Ty.mk tk tn tm tl).cells) (.loc b (psC L p1)):=HT
 have HK:=fun b=>take_c b L hL p1 k1 0 kE
 obtain ⟨⟨qk,qt,qn,qa⟩,hq⟩:∃ q,(takeP L p1 0 kE).1=q:=⟨_,rfl⟩
 replace hr:(if (takeP L p1 0 kE).2.e≠0 then (ty0,(takeP L p1 0 kE).2.e,(takeP L p1 0 kE).2.wh) else ((Ty.mk tk tn tm tl),0,0))=r:=hr
 rw [hq] at HK
 generalize (takeP L p1 0 kE).2=p2 at *
 obtain ⟨pa,pl,pe,pw⟩:=p2
 refine Zc Tryz.func126 U (by kernel_rfl) U (Wc U) ?_
 refine Qe ?_
 refine QE ?_;intro b2
 refine QJ ?_
 refine QK ?_
 refine Zb 8 U U U (op_callat [] (xs:=[.tmp 7]) U U U (HB) by2 ?_)
 rintro v M' ⟨b,rfl,rfl⟩
 refine QK ?_
 refine Zb 10 U U U (Zl (xs:=[.tmp 9]) (i:=0) U U U (HT b) by2 ?_)
 refine QE ?_;intro b6
 refine QO ?_
 refine QB ?_
 refine Zb 12 U U U (Zl (xs:=[.tmp 11,.const (.int .i64 0),.const (.string ⟨#[]⟩)]) (i:=1) U U U (HK b) by2 ?_)
 refine QaB ?_
 refine QdE ?_;intro c17 h17
 refine Qa ?_
 obtain ⟨rfl,g17⟩|⟨rfl,g17⟩:=Za h17
 ·refine QV ?_
  refine Q9 ?_
  refine QdH ?_
  refine Qac ?_
  rw [if_neg g17] at hr
  subst hr
  exact Yg (i:=2) U U U U U Zx U by1 (Xp _) ⟨U,U⟩
 refine QM ?_
 refine Qhy ?_
 refine Zi 18 (none) (i:=0) U U U U U (Zm (ns:=[]) (xs:=[]) U tz_24 U tfl_24 U U U U ⟨U,U⟩) ?_
 refine Qw ?_
 refine Qei ?_
 refine QW ?_
 refine QdR ?_
 refine Qw ?_
 refine Qei ?_
 refine QW ?_
 refine QdR ?_
 refine Qd3 ?_
 refine QZ ?_
 refine QZ ?_
 show AGo _ _ _ _ _ _ _
 refine QI ?_
 rw [if_pos g17] at hr
 subst hr
 exact Yg (i:=2) U U U U U Zx U by1 (Xp _) ⟨U,U⟩
abbrev nmsP:List ByteArray:=primRows.map Prod.fst
abbrev txtsP:List ByteArray:=[⟨#[73,110,116,32,45,62,32,73,110,116,32,45,62,32,73,110,116]⟩,⟨#[73,110,116,32,45,62,32,73,110,116,32,45,62,32,73,110,116]⟩,⟨#[73,110,116,32,45,62,32,73,110,116,32,45,62,32,73,110,116]⟩,⟨#[73,110,116,32,45,62,32,73,110,116,32,45,62,32,73,110,116]⟩,⟨#[73,110,116,32,45,62,32,73,110,116,32,45,62,32,73,110,116]⟩,⟨#[73,110,116,32,45,62,32,73,110,116,32,45,62,32,66,111,111,108]⟩,⟨#[73,110,116,32,45,62,32,73,110,116,32,45,62,32,66,111,111,108]⟩,⟨#[83,116,114,105,110,103,32,45,62,32,83,116,114,105,110,103,32,45,62,32,83,116,114,105,110,103]⟩,⟨#[83,116,114,105,110,103,32,45,62,32,83,116,114,105,110,103,32,45,62,32,66,111,111,108]⟩,⟨#[83,116,114,105,110,103,32,45,62,32,83,116,114,105,110,103,32,45,62,32,66,111,111,108]⟩,⟨#[83,116,114,105,110,103,32,45,62,32,73,110,116]⟩,⟨#[73,110,116,32,45,62,32,83,116,114,105,110,103]⟩,⟨#[83,116,114,105,110,103,32,45,62,32,85,110,105,116]⟩,⟨#[85,110,105,116,32,45,62,32,83,116,114,105,110,103]⟩,⟨#[97,32,45,62,32,82,101,102,32,97]⟩,⟨#[82,101,102,32,97,32,45,62,32,97]⟩,⟨#[82,101,102,32,97,32,45,62,32,97,32,45,62,32,85,110,105,116]⟩]
theorem txts_type:txtsP.map typeT=primRows.map fun r=>(r.2,(0:Int),(0:Int)):=by kernel_rfl
theorem prims_vs:prims.map (fun p=>p.sc.vs)=[[],[],[],[],[],[],[],[],[],[],[],[],[],[],[⟨#[97]⟩],[⟨#[97]⟩],[⟨#[97]⟩]]:=by
 simp [prims,prm,prOf,Pm.sc,Sc.vs,Ty.vars,Ty.all,Ty.alls,addVar,Ty.kind,Ty.name]
theorem prims_at {i:Nat} {s:ByteArray} {t:Ty} (h:primRows[i]?=some (s,t)) (hi:i<17):prims[i]?=some (.mk s (i+1) (if i<10∨i=16 then 2 else 1) ⟨if 13<i then [⟨#[97]⟩] else [],[],t⟩):=by
 have h1:=prm_take primRows 0 i _ h
 have hx:prims[i]?=some (prOf i (s,t)):=by
  have hp:(prm 0 (primRows.take (i+1)))[i]?=some (prOf (0+i) (s,t)):=by
   have hl:(prm 0 (primRows.take i)).length=i:=by rw [prm_len,List.length_take];simp;omega
   rw [h1,List.getElem?_append_right by17,hl,Nat.sub_self]
   rfl
  rw [Nat.zero_add] at hp
  have key:∀ (l:List (ByteArray × Ty)) (j n i:Nat),i<n→(prm j (l.take n))[i]?=(prm j l)[i]?:=by
   intro l
   induction l with
   | nil=>intro j n i h;simp [prm]
   | cons x l ih =>
    intro j n i h
    cases n with
    | zero=>omega
    | succ n =>
     rw [List.take_succ_cons,prm,prm]
     cases i with
     | zero=>rfl
     | succ i=>rw [List.getElem?_cons_succ,List.getElem?_cons_succ];exact ih (j+1) n i by17
  rw [key primRows 0 (i+1) i by17] at hp
  exact hp
 have hn:(prims.map Pm.n)[i]?=some (if i<10∨i=16 then 2 else 1):=by
  rw [prims_n]
  have:∀ j:Fin 17,([2,2,2,2,2,2,2,2,2,2,1,1,1,1,1,1,2]:List Int)[j.val]?=some (if j.val<10∨j.val=16 then 2 else 1):=by decide
  exact this ⟨i,hi⟩
 have hv:(prims.map fun p=>p.sc.vs)[i]?=some (if 13<i then [⟨#[97]⟩] else []):=by
  rw [prims_vs]
  have:∀ j:Fin 17,([[],[],[],[],[],[],[],[],[],[],[],[],[],[],[⟨#[97]⟩],[⟨#[97]⟩],[⟨#[97]⟩]]:List (List ByteArray))[j.val]?=some (if 13<j.val then [⟨#[97]⟩] else []):=by decide +kernel
  exact this ⟨i,hi⟩
 rw [List.getElem?_map,hx] at hn hv
 have e1:((t.args.length:Int))=(if i<10∨i=16 then 2 else 1):=Option.some.inj hn
 have e2:t.vars=(if 13<i then [⟨#[97]⟩] else []):=Option.some.inj hv
 rw [hx]
 unfold prOf
 rw [e1,e2]
theorem rNms_c:PCall Tryz.prog 124 [] (.seq 1 (strs nmsP)):=by
 refine Zc Tryz.func124 U (by kernel_rfl) U (Wc U) ?_
 refine Qe ?_
 refine Qs ?_
 refine Zb 1 U U U (Zf (xs:=[.const (.string ⟨#[112,114,105,109,65,100,100]⟩),.const (.string ⟨#[112,114,105,109,83,117,98]⟩),.const (.string ⟨#[112,114,105,109,77,117,108]⟩),.const (.string ⟨#[112,114,105,109,68,105,118]⟩),.const (.string ⟨#[112,114,105,109,77,111,100]⟩),.const (.string ⟨#[112,114,105,109,69,113]⟩),.const (.string ⟨#[112,114,105,109,76,101,115,115]⟩),.const (.string ⟨#[112,114,105,109,67,97,116]⟩),.const (.string ⟨#[112,114,105,109,83,97,109,101]⟩),.const (.string ⟨#[112,114,105,109,66,101,102,111,114,101]⟩),.const (.string ⟨#[112,114,105,109,76,101,110]⟩),.const (.string ⟨#[112,114,105,109,83,104,111,119]⟩),.const (.string ⟨#[112,114,105,109,80,117,116]⟩),.const (.string ⟨#[112,114,105,109,71,101,116]⟩),.const (.string ⟨#[112,114,105,109,78,101,119]⟩),.const (.string ⟨#[112,114,105,109,82,101,97,100]⟩),.const (.string ⟨#[112,114,105,109,87,114,105,116,101]⟩)]) Yy U U U U U U (Wc U) ?_)
 refine Qo ?_
 exact Ze U U (Xu _) (Xp _) ⟨U,U⟩
theorem rTxts_c:PCall Tryz.prog 125 [] (.seq 1 (strs txtsP)):=by
 refine Zc Tryz.func125 U (by kernel_rfl) U (Wc U) ?_
 refine Qe ?_
 refine Qs ?_
 refine Zb 1 U U U (Zf (xs:=[.const (.string ⟨#[73,110,116,32,45,62,32,73,110,116,32,45,62,32,73,110,116]⟩),.const (.string ⟨#[73,110,116,32,45,62,32,73,110,116,32,45,62,32,73,110,116]⟩),.const (.string ⟨#[73,110,116,32,45,62,32,73,110,116,32,45,62,32,73,110,116]⟩),.const (.string ⟨#[73,110,116,32,45,62,32,73,110,116,32,45,62,32,73,110,116]⟩),.const (.string ⟨#[73,110,116,32,45,62,32,73,110,116,32,45,62,32,73,110,116]⟩),.const (.string ⟨#[73,110,116,32,45,62,32,73,110,116,32,45,62,32,66,111,111,108]⟩),.const (.string ⟨#[73,110,116,32,45,62,32,73,110,116,32,45,62,32,66,111,111,108]⟩),.const (.string ⟨#[83,116,114,105,110,103,32,45,62,32,83,116,114,105,110,103,32,45,62,32,83,116,114,105,110,103]⟩),.const (.string ⟨#[83,116,114,105,110,103,32,45,62,32,83,116,114,105,110,103,32,45,62,32,66,111,111,108]⟩),.const (.string ⟨#[83,116,114,105,110,103,32,45,62,32,83,116,114,105,110,103,32,45,62,32,66,111,111,108]⟩),.const (.string ⟨#[83,116,114,105,110,103,32,45,62,32,73,110,116]⟩),.const (.string ⟨#[73,110,116,32,45,62,32,83,116,114,105,110,103]⟩),.const (.string ⟨#[83,116,114,105,110,103,32,45,62,32,85,110,105,116]⟩),.const (.string ⟨#[85,110,105,116,32,45,62,32,83,116,114,105,110,103]⟩),.const (.string ⟨#[97,32,45,62,32,82,101,102,32,97]⟩),.const (.string ⟨#[82,101,102,32,97,32,45,62,32,97]⟩),.const (.string ⟨#[82,101,102,32,97,32,45,62,32,97,32,45,62,32,85,110,105,116]⟩)]) Yy U U U U U U (Wc U) ?_)
 refine Qo ?_
 exact Ze U U (Xu _) (Xp _) ⟨U,U⟩
theorem rPrims_c:PCall Tryz.prog 76 [] (.seq 9 (Pm.cellss prims)):=by
 have hpl:=prims_len
 have hn1:(strs nmsP).length=17:=rfl
 have hn2:(strs txtsP).length=17:=rfl
 have HT:∀ (i:Nat) (s:ByteArray) (t:Ty) (x:ByteArray),primRows[i]?=some (s,t)→txtsP[i]?=some x→PCall Tryz.prog 126 [.val (.string x)] (.tup [.agg t.cells,.val (.int .i64 0),.val (.int .i64 0)]):=fun i s t x h1 h2=>by
  have H:=rTypeT_c x
  have e:typeT x=(t,0,0):=by
   have q:(txtsP.map typeT)[i]?=some (typeT x):=by rw [List.getElem?_map,h2];rfl
   rw [txts_type,List.getElem?_map,h1] at q
   exact (Option.some.inj q).symm
  rw [e] at H
  exact H
 have hnm:∀ (i:Nat) (s:ByteArray) (t:Ty),primRows[i]?=some (s,t)→nmsP[i]?=some s:=fun i s t h=>by
  show (primRows.map Prod.fst)[i]?=some s
  rw [List.getElem?_map,h];rfl
 have hrl:primRows.length=17:=rfl
 have htl:txtsP.length=17:=rfl
 have hpa:=fun (i:Nat) (s:ByteArray) (t:Ty) (h:primRows[i]?=some (s,t)) (hi:i<17)=>prims_at h hi
 have HN:=rNms_c
 have HX:=rTxts_c
 generalize primRows=rows at *
 generalize nmsP=nms at *
 generalize txtsP=txts at *
 generalize prims=pm at *
 refine Zc Tryz.func76 U (by kernel_rfl) U (Wc U) ?_
 refine Qe ?_
 refine Qs ?_
 refine Qs ?_
 refine Zb 9 U U U (Zd (xs:=[]) U U (HN) by2 ?_)
 refine Qs ?_
 refine Zb 10 U U U (Zd (xs:=[]) U U (HX) by2 ?_)
 refine Qae ?_
 refine Yp 187 9 ?_
 apply Yl (rg [(1,1),(4,47)]) (σ:=Nat × Value) (fun zz=>match zz with|(i,u)=>[(1,.own u 9 (Pm.cellss (pm.take i))),(4,.val (.int .i64 i))]) (fun zz=>match zz with|(i,u)=>[.own 187 9 u]) (fun zz=>match zz with|(i,u)=>i≤17) (fun zz=>match zz with|(i,u)=>17 - i) ((0,.slice none 0 0))
 ·repeat' (first|exact Wf|apply Wd rfl|apply We rfl)
 ·exact Nat.zero_le _
 ·exact Xy U (Le.nilOwn 9) (Xy U (Xu _) by5)
 ·exact by4
 rintro ⟨i,u⟩ hI
 try dsimp only [List.cons_append,List.nil_append] at hI ⊢
 have hi:i≤17:=hI
 have hol:(Pm.cellss (pm.take i)).length=i:=by rw [Pm.cellss_len,List.length_take];omega
 refine QcV ?_;intro n13
 refine Qg ?_;intro c14 h14
 refine Qa ?_
 obtain ⟨rfl,g14⟩|⟨rfl,g14⟩:=Za h14
 ·refine Qa4 ?_
  rw [List.take_of_length_le by17]
  exact Ze U U (Le.own _ _ _) (Xp _) ⟨U,U⟩
 refine Qk ?_
 obtain ⟨⟨s,⟨tk,tn,tm,tl⟩⟩,hrow⟩:=Zj (l:=rows) (i:=i) by17
 obtain ⟨x,hxx⟩:=Zj (l:=txts) (i:=i) by17
 have hcx:=Xc hxx
 have hcs:=Xc (hnm i s _ hrow)
 have HTi:=HT i s _ x hrow hxx
 have hpi:=hpa i s _ hrow by17
 have hpt:=Yd hpi
 refine Q8 ?_
 refine QfJ ?_
 refine QaG ?_
 refine Zb 22 U U U (Zd (xs:=[.tmp 21]) U U (HTi) by2 ?_)
 refine QcY ?_
 refine QE ?_;intro b5
 refine QO ?_
 refine QJ ?_
 refine QG ?_
 refine Yh [0,1,2,3,4,5,6,7,8,9,10] [9,10] [[],[],[0,1],[0,1,2],[],[4],[],[6],[0,1,2,3,4,5,6,7],[],[0,1,2,3,4,5,6,7,8,9]] Yx U ?_
 refine QbM ?_
 refine Qfq ?_
 refine Qel ?_
 refine Qw ?_
 refine QgC ?_
 refine QdP ?_
 refine Zi 33 (none) (i:=7) U U U U U (Zm (ns:=[2]) (xs:=[.tmp 32]) U tz_185 U tfl_185 U U U U ⟨U,U⟩) ?_
 refine Zi 34 (none) (i:=8) U U U U U (Zm (ns:=[0,1,2,3]) (xs:=[.tmp 29,.tmp 31,.const (.int .i64 1),.tmp 33]) U tz_187 U tfl_187 U U U U ⟨U,U⟩) ?_
 refine Xa (i:=9) U U U (Yb (cs':=[_,_,_,_,_,_,_,_,_]) U tz_187 U U (fun b8=>⟨_,U,?_⟩))
 refine Yc 2 (i:=10) U U U U U (Zp (cs':=[_,_,_,_,_,_,_,_,_]) (i:=0) U ts_187 U U U U U (Wc U) U ⟨_,U,?_⟩)
 show AGo _ _ _ _ _ _ _
 refine Qcy ?_
 refine Zw 40 (i<10∨i=16) ?_ _ _ U ?_
 ·skip
  refine Qb ?_
  refine Qg ?_;intro c36 h36
  refine Qb ?_
  obtain ⟨rfl,g36⟩|⟨rfl,g36⟩:=Za h36
  ·skip
   refine Qat ?_;intro c39 h39
   refine Qm ?_
   refine Wa U ?_ by6 by4
   first|(simp_all;done)|(simp_all;omega)|grind
  skip
  refine Qcx ?_
  refine Wa U ?_ by6 by4
  first|(simp_all;done)|(simp_all;omega)|grind
 intro c40 h40
 refine Qc ?_
 obtain ⟨rfl,g40⟩|⟨rfl,g40⟩:=Za h40
 ·refine QaP ?_
  refine Qbo ?_;intro c43 h43
  refine Qa ?_
  obtain ⟨rfl,g43⟩|⟨rfl,g43⟩:=Za h43
  ·refine QbW ?_
   refine Qh ?_
   refine Qe6 ?_
   refine Qe7 ?_
   refine Qe8 ?_
   intro u50
   refine QaD ?_
   refine ⟨(i+1,u50),by show i+1≤17;omega,by show 17 - (i+1)<17 - i;omega,Xy U ?_ by5,by4⟩
   rw [hpt]
   first
    |(rw [if_pos by17,if_pos by17];exact Le.own_lessA by0)
    |(rw [if_pos by17,if_neg by17];exact Le.own_lessA by0)
    |(rw [if_neg by17,if_pos by17];exact Le.own_lessA by0)
    |(rw [if_neg by17,if_neg by17];exact Le.own_lessA by0)
  refine QbX ?_
  refine Qhz ?_
  refine Qt ?_
  refine Qt ?_
  refine QhA ?_
  refine QdB ?_
  refine Qe6 ?_
  refine Qe7 ?_
  refine Qe8 ?_
  intro u50
  refine QaD ?_
  refine ⟨(i+1,u50),by show i+1≤17;omega,by show 17 - (i+1)<17 - i;omega,Xy U ?_ by5,by4⟩
  rw [hpt]
  first
   |(rw [if_pos by17,if_pos by17];exact Le.own_lessA by0)
   |(rw [if_pos by17,if_neg by17];exact Le.own_lessA by0)
   |(rw [if_neg by17,if_pos by17];exact Le.own_lessA by0)
   |(rw [if_neg by17,if_neg by17];exact Le.own_lessA by0)
 refine QbX ?_
 refine Qt ?_
 refine Zr U U (Zp (cs':=[_,_,_,_,_,_,_,_,_]) (i:=2) U ts_3 U U U U U (Wc U) U ?_)
 refine QaB ?_
 refine Qbo ?_;intro c43 h43
 refine Qa ?_
 obtain ⟨rfl,g43⟩|⟨rfl,g43⟩:=Za h43
 ·refine QbW ?_
  refine Qh ?_
  refine Qe6 ?_
  refine Qe7 ?_
  refine Qe8 ?_
  intro u50
  refine QaD ?_
  refine ⟨(i+1,u50),by show i+1≤17;omega,by show 17 - (i+1)<17 - i;omega,Xy U ?_ by5,by4⟩
  rw [hpt]
  first
   |(rw [if_pos by17,if_pos by17];exact Le.own_lessA by0)
   |(rw [if_pos by17,if_neg by17];exact Le.own_lessA by0)
   |(rw [if_neg by17,if_pos by17];exact Le.own_lessA by0)
   |(rw [if_neg by17,if_neg by17];exact Le.own_lessA by0)
 refine QbX ?_
 refine Qhz ?_
 refine Qt ?_
 refine Qt ?_
 refine QhA ?_
 refine QdB ?_
 refine Qe6 ?_
 refine Qe7 ?_
 refine Qe8 ?_
 intro u50
 refine QaD ?_
 refine ⟨(i+1,u50),by show i+1≤17;omega,by show 17 - (i+1)<17 - i;omega,Xy U ?_ by5,by4⟩
 rw [hpt]
 first
  |(rw [if_pos by17,if_pos by17];exact Le.own_lessA by0)
  |(rw [if_pos by17,if_neg by17];exact Le.own_lessA by0)
  |(rw [if_neg by17,if_pos by17];exact Le.own_lessA by0)
  |(rw [if_neg by17,if_neg by17];exact Le.own_lessA by0)
theorem rStart_c (v:En) (sc:List Cb) (vs:List ByteArray):PCall Tryz.prog 44 [.agg v.cells,.seq 17 (Cb.cellss sc),.seq 1 (strs vs)] (.agg (wcC v (Pm.cellss prims) sc vs)):=by
 have HP:=rPrims_c
 generalize Pm.cellss prims=pm at *
 unfold wcC
 obtain ⟨da,cl,ins⟩:=v
 simp only [En.cells,List.cons_append,List.nil_append] at *
 refine Zc Tryz.func44 U (by kernel_rfl) U (Wc U) ?_
 refine Qar ?_
 refine QeC ?_;intro b6
 refine Qy ?_
 refine Yh [0,1,2,3,4,5] [5] [[],[],[],[],[0,1,2,3],[0,1,2,3,4]] Yx U ?_
 refine Qeu ?_
 refine QbM ?_
 refine Zi 10 (none) (i:=3) U U U U U (Zd (xs:=[]) U U (HP) by2 ⟨U,U⟩) ?_
 refine Zi 11 (none) (i:=4) U U U U U (Zm (ns:=[0,1,2,3]) (xs:=[.tmp 7,.tmp 8,.tmp 9,.tmp 10]) U tz_97 U tfl_97 U U U U ⟨U,U⟩) ?_
 refine Yc 0 (i:=5) U U U U U (Zp (cs':=[_,_,_,_,_,_]) (i:=0) U ts_97 U U U U U (Wc U) U ⟨_,U,?_⟩)
 show AGo _ _ _ _ _ _ _
 refine QI ?_
 exact Zk (i:=0) U U U ta_97 U by3 (Xp _) ⟨U,U⟩
def chkI:Option Nat→Int
 | none => -1
 | some i=>i
theorem rCheck_c (v:En) (bs:List Cb) (q:Cb→Bool) (HB:∀ b∈bs,BCall Tryz.prog 45 [.agg (wcC v (Pm.cellss prims) bs []),.agg b.cells] (q b=true)):PCall Tryz.prog 17 [.agg v.cells,.agg [.seq 17 (Cb.cellss bs)]] (.val (.int .i64 (chkI (chkC q [] bs 0)))):=by
 have HS:=rStart_c v bs []
 obtain ⟨r,hr⟩:∃ r,chkC q [] bs 0=r:=⟨_,rfl⟩
 rw [hr]
 have hlb:=Cb.cellss_len bs
 generalize Pm.cellss prims=pm at *
 obtain ⟨da,cl,ins⟩:=v
 unfold wcC at *
 simp only [En.cells,List.cons_append,List.nil_append] at *
 refine Zc Tryz.func17 U (by kernel_rfl) U (Wc U) ?_
 refine Qar ?_
 refine Qcr ?_
 refine Qs ?_
 refine Qbe ?_
 refine Qd ?_
 refine Zb 11 U U U (Zd (xs:=[.tmp 8,.tmp 10,.const (.slice none 0 0)]) U U (HS) by2 ?_)
 refine QeC ?_;intro b5
 refine QfX ?_
 refine Qa8 ?_
 refine Qab ?_
 apply Zu (rg [(0,3),(4,1),(6,41)]) (σ:=Nat) (fun zz=>match zz with|i=>[(6,.val (.int .i64 i))]) (fun zz=>match zz with|i=>i≤bs.length∧chkC q ((bs.take i).map Cb.s) (bs.drop i) i=r) (fun zz=>match zz with|i=>bs.length - i) (0)
 ·repeat' (first|exact Wf|apply Wd rfl|apply We rfl)
 ·exact ⟨Nat.zero_le _,hr⟩
 ·exact by5
 rintro i hI
 try dsimp only [List.cons_append,List.nil_append] at hI ⊢
 obtain ⟨hi,hD⟩:=hI
 refine Qav ?_
 refine QcK ?_;intro n15
 refine Qg ?_;intro c16 h16
 refine Qa ?_
 obtain ⟨rfl,g16⟩|⟨rfl,g16⟩:=Za h16
 ·refine Qad ?_
  rw [Wh by17,chkC] at hD
  subst hD
  exact Ze U U (Xu _) (Xp _) ⟨U,U⟩
 refine Qk ?_
 refine Q2 ?_
 obtain ⟨⟨zb,zvs,⟨zwk,zws,zwn,zwl⟩,⟨zk,zs,zn,⟨ztk,zts,ztn,ztl⟩,zus,zks,zal,zbs⟩⟩,hxz⟩:=Zj (l:=bs) (i:=i) by8
 have hcz:=Cb.cellss_get hxz
 have hmz:=Wg hxz
 rw [Zz hxz,chkC] at hD
 have hts:=Yd hxz
 have HBz:=HB _ hmz
 replace hD:(if hasB ((bs.take i).map Cb.s) zb=true∨q (Cb.mk zb zvs ⟨zwk,zws,zwn,zwl⟩ ⟨zk,zs,zn,⟨ztk,zts,ztn,ztl⟩,zus,zks,zal,zbs⟩)=false then some i else chkC q ((bs.take i).map Cb.s++[zb]) (bs.drop (i+1)) (i+1))=r:=hD
 generalize q (Cb.mk zb zvs ⟨zwk,zws,zwn,zwl⟩ ⟨zk,zs,zn,⟨ztk,zts,ztn,ztl⟩,zus,zks,zal,zbs⟩)=w at *
 refine QaN ?_
 apply Zu (rg [(0,3),(4,1),(7,5),(19,19)]) (σ:=Nat) (fun zz=>match zz with|j=>[(7,.val (.int .i64 j))]) (fun zz=>match zz with|j=>j≤i∧zb∉(bs.take j).map Cb.s) (fun zz=>match zz with|j=>i - j) (0)
 ·repeat' (first|exact Wf|apply Wd rfl|apply We rfl)
 ·exact ⟨Nat.zero_le _,by simp⟩
 ·exact by5
 rintro j hI
 try dsimp only [List.cons_append,List.nil_append] at hI ⊢
 obtain ⟨hj,hu⟩:=hI
 refine QaA ?_
 refine Qg ?_;intro c21 h21
 refine Qa ?_
 obtain ⟨rfl,g21⟩|⟨rfl,g21⟩:=Za h21
 ·refine Qag ?_
  obtain rfl:i=j:=by omega
  refine Q6 ?_
  refine Zq 38 U U (Zs (cs':=[_,_,_,_,_,_]) (i:=0) U ta_97 U U U U ⟨U,U⟩) ?_
  refine QaF ?_
  refine Zq 42 U U (Zh U te_27 U (.seq _ _) U U (hcz) ⟨U,U⟩) ?_
  refine Zq 43 U U (Zt (cs':=[_,_,_,_,_,_,_,_,_,_,_,_,_,_,_,_,_]) U ta_46 U U U ⟨U,U⟩) ?_
  refine Yj 44 U U (fun _ q=>Zg (xs:=[.tmp 38,.tmp 43]) U U (HBz) by2 q) ?_;intro c44 h44
  refine Yj 45 U U (fun _ q=>Yz U U q) ?_;intro c45 h45
  try replace h45:=Ym h45 h44
  show AGo _ _ _ _ _ _ _
  refine Qc ?_
  obtain ⟨rfl,g45⟩|⟨rfl,g45⟩:=Za h45
  ·refine QL ?_
   rw [if_neg (by
    rintro (h|h)
    ·exact hu (hasB_iff.1 h)
    exact g45 (by simp [h]))] at hD
   exact ⟨i+1,⟨by show i+1≤bs.length;omega,by rw [hts,List.map_append];exact hD⟩,by show bs.length - (i+1)<bs.length - i;omega,by5,by4⟩
  refine QaY ?_
  rw [if_pos (.inr (by simpa using g45))] at hD
  subst hD
  exact Ze U U (Xu _) (Xp _) ⟨U,U⟩
 refine Qk ?_
 obtain ⟨⟨yb,yvs,⟨ywk,yws,ywn,ywl⟩,⟨yk,ys,yn,⟨ytk,yts,ytn,ytl⟩,yus,yks,yal,ybs⟩⟩,hxy⟩:=Zj (l:=bs) (i:=j) by8
 have hcy:=Cb.cellss_get hxy
 have hmy:=Wg hxy
 refine Q6 ?_
 refine QaF ?_
 refine QhB ?_
 refine Q3 ?_
 refine QaF ?_
 refine QhB ?_
 refine Q3 ?_
 refine Yj 36 U U (fun _ q=>op_seql U U U q) ?_;intro c36 h36
 show AGo _ _ _ _ _ _ _
 refine Qc ?_
 obtain ⟨rfl,g36⟩|⟨rfl,g36⟩:=Za h36
 ·refine QL ?_
  refine ⟨j+1,⟨by show j+1≤i;omega,?_⟩,by show i - (j+1)<i - j;omega,by5,by4⟩
  rw [Yd hxy,List.map_append]
  intro h
  rcases List.mem_append.1 h with h|h
  ·exact hu h
  rw [List.map_cons,List.map_nil,List.mem_singleton] at h
  exact g36 h.symm
 refine QaY ?_
 have hji:j<i:=by omega
 have hmt:=Wg ((List.getElem?_take_of_lt (l:=bs) hji).trans hxy)
 have hin:zb∈(bs.take i).map Cb.s:=List.mem_map.2 ⟨_,hmt,g36⟩
 rw [if_pos (.inl (hasB_iff.2 hin))] at hD
 subst hD
 exact Ze U U (Xu _) (Xp _) ⟨U,U⟩
def envR (s:ByteArray):En × Bool :=
 if 3000<(s.size:Int) then (.mk [] [] [],false)
 else if (progT s).2.1≠0∨(checkR (progT s).1).1≠0 then (.mk [] [] [],false)
 else (envOf (progT s).1,decide ((progT s).1.cl.length≤12∧(progT s).1.ins.length≤30))
theorem Env_c (s:ByteArray):PCall Tryz.prog 13 [.val (.string s)] (.tup [.agg (envR s).1.cells,.val (.bool (envR s).2)]):=by
 have HP:=Prog_c s
 have HC:=fun (p:Pg) hp hb=>Check_c p hp hb
 obtain ⟨hg,hb⟩:=progT_g s
 have HC:=HC _ hg.b hb
 obtain ⟨r,hr⟩:∃ r,envR s=r:=⟨_,rfl⟩
 rw [hr]
 unfold envR at hr
 unfold progR at HP
 generalize progT s=o at *
 obtain ⟨⟨da,cl,ins,bs⟩,e,w⟩:=o
 generalize checkR (.mk da cl ins bs)=f at *
 obtain ⟨f1,f2⟩:=f
 have hcl:=Cl.cellss_len cl
 have hin:=In.cellss_len ins
 simp only [Pg.cells,faultA] at HP HC
 refine Zc Tryz.func13 U (by kernel_rfl) U (Wc U) ?_
 refine Qe ?_
 refine QfD ?_;intro b2
 refine QU ?_
 refine Qco ?_
 refine Qbo ?_;intro c9 h9
 refine Qa ?_
 obtain ⟨rfl,g9⟩|⟨rfl,g9⟩:=Za h9
 ·refine Qp ?_
  rw [if_neg g9] at hr
  refine Qh ?_
  refine Zb 13 U U U (Zd (xs:=[.tmp 12]) U U (HP) by2 ?_)
  refine QcY ?_
  refine Qf7 ?_;intro b4
  refine Qhw ?_
  refine QJ ?_
  refine Q1 ?_
  refine Zw 24 (e≠0∨f1≠0) ?_ _ _ U ?_
  ·skip
   refine Qb ?_
   refine QP ?_;intro c18 h18
   refine Qb ?_
   obtain ⟨rfl,g18⟩|⟨rfl,g18⟩:=Za h18
   ·skip
    refine Zo 20 U U U U U (Zs (cs':=[_,_,_,_]) (i:=0) U ta_81 U U U U (Zo 21 U U U U U (Zd (xs:=[.tmp 20]) U U (HC) by2 ?_)))
    refine Qhx ?_
    refine Qax ?_;intro c23 h23
    refine Qm ?_
    refine Wa U ?_ by6 by4
    first|(simp_all;done)|(simp_all;omega)|grind
   skip
   refine QaX ?_
   refine Wa U ?_ by6 by4
   first|(simp_all;done)|(simp_all;omega)|grind
  intro c24 h24
  refine Qc ?_
  obtain ⟨rfl,g24⟩|⟨rfl,g24⟩:=Za h24
  ·refine Qp ?_
   rw [if_neg g24] at hr
   refine Yh [0,1,2,3,4,5,6,7,8,9,10,11,12,13,14,15,16,17,18] [17] [[],[0],[],[2],[],[4],[0,1,2,3,4,5],[],[7],[7,8],[7,8,9],[7,8,9,10],[7,8,9,10,11],[7,8,9,10,11,12],[7,8,9,10,11,12,13],[7,8,9,10,11,12,13,14],[7,8,9,10,11,12,13,14,15],[0,1,2,3,4,5,6,7,8,9,10,11],[0,1,2,3,4,5,6,7,8,9,10,11,12,13,14,15,16,17]] Yx U ?_
   refine Qa7 ?_
   refine Qa7 ?_
   refine Qa7 ?_
   refine Zi 32 (none) (i:=6) U U U U U (Zm (ns:=[0,1,2]) (xs:=[.tmp 27,.tmp 29,.tmp 31]) U tz_41 U tfl_41 U U U U ⟨U,U⟩) ?_
   refine Qa7 ?_
   refine Zi 35 none (i:=9) U U U U U (Yw U tu_38 U (.seq _ _) (fun _=>⟨U,U⟩)) ?_
   refine EOps.cm 36 (i:=10) U U U U (fun _ q=>op_leq U U U q) ?_;intro c36 h36
   refine Qw ?_
   obtain ⟨rfl,g36⟩|⟨rfl,g36⟩:=Za h36
   ·skip
    refine EOps.df 38 (i:=12) U U U U U U (EOps.df 39 (i:=13) U U U U U U (EOps.df 40 (i:=14) U U U U U U (EOps.df 41 (i:=15) U U U U U U ?_)))
    refine QeV ?_
    refine QhC ?_
    refine QZ ?_
    show AGo _ _ _ _ _ _ _
    refine QI ?_
    have hr:(En.mk da cl ins,decide (cl.length≤12∧ins.length≤30))=r:=hr
    first
     | (have hd:decide (cl.length≤12∧ins.length≤30)=false:=decide_eq_false by17
        rw [hd] at hr;subst hr
        exact Zy (i:=1) U U U U ta_41 U by1 (Xp _) ⟨U,U⟩)
     | (rcases Za h41 with ⟨rfl,g41⟩|⟨rfl,g41⟩
        ·have hd:decide (cl.length≤12∧ins.length≤30)=false:=decide_eq_false by17
         rw [hd] at hr;subst hr
         exact Zy (i:=1) U U U U ta_41 U by1 (Xp _) ⟨U,U⟩
        have hd:decide (cl.length≤12∧ins.length≤30)=true:=decide_eq_true by17
        rw [hd] at hr;subst hr
        exact Zy (i:=1) U U U U ta_41 U by1 (Xp _) ⟨U,U⟩)
   skip
   refine EOps.dg 38 (none) (i:=12) U U U U U U U (op_fieldAddr_m U tf_81_2 U ⟨U,U⟩) ?_
   refine EOps.dg 39 (some 0) (i:=13) U U U U U U U (Xl (i:=0) U ta_39 U U U ⟨U,U⟩) ?_
   refine EOps.dg 40 none (i:=14) U U U U U U U (Yw U tu_39 U (.seq _ _) (fun _=>⟨U,U⟩)) ?_
   refine EOps.cmg 41 (i:=15) U U U U U U (fun _ q=>op_leq U U U q) ?_;intro c41 h41
   refine QeV ?_
   refine QhC ?_
   refine QZ ?_
   show AGo _ _ _ _ _ _ _
   refine QI ?_
   have hr:(En.mk da cl ins,decide (cl.length≤12∧ins.length≤30))=r:=hr
   first
    | (have hd:decide (cl.length≤12∧ins.length≤30)=false:=decide_eq_false by17
       rw [hd] at hr;subst hr
       exact Zy (i:=1) U U U U ta_41 U by1 (Xp _) ⟨U,U⟩)
    | (rcases Za h41 with ⟨rfl,g41⟩|⟨rfl,g41⟩
       ·have hd:decide (cl.length≤12∧ins.length≤30)=false:=decide_eq_false by17
        rw [hd] at hr;subst hr
        exact Zy (i:=1) U U U U ta_41 U by1 (Xp _) ⟨U,U⟩
       have hd:decide (cl.length≤12∧ins.length≤30)=true:=decide_eq_true by17
       rw [hd] at hr;subst hr
       exact Zy (i:=1) U U U U ta_41 U by1 (Xp _) ⟨U,U⟩)
  refine Qq ?_
  refine Qf8 ?_
  refine Zr U U (Zp (cs':=[_,_,_]) (i:=1) U ts_41 U U U U U (Wc U) U ?_)
  refine Qo ?_
  rw [if_pos g24] at hr;subst hr;exact Zy (i:=1) rfl rfl rfl rfl ta_41 rfl by1 (Xp _) ⟨rfl,rfl⟩
 refine Qq ?_
 refine Qf8 ?_
 refine QfE ?_
 refine Qo ?_
 rw [if_pos g9] at hr;subst hr;exact Zy (i:=0) rfl rfl rfl rfl ta_41 rfl by1 (Xp _) ⟨rfl,rfl⟩
theorem prims_size:∀ p∈prims,p.sc.t.size≤1000:=by
 have key:∀ (l:List (ByteArray × Ty)) (j:Nat),(∀ r∈l,r.2.size≤100)→∀ p∈prm j l,p.sc.t.size≤1000:=by
  intro l
  induction l with
  | nil=>intro j _ p hp;simp [prm] at hp
  | cons x l ih =>
   intro j h p hp
   rw [prm] at hp
   rcases List.mem_cons.1 hp with rfl|hp
   ·have:=h x by18
    show x.2.size≤1000
    omega
   exact ih (j+1) (fun r hr=>h r (by simp [hr])) p hp
 exact key primRows 0 rows_size
theorem env_ok {s:ByteArray} (h:(envR s).2=true):EnT (envR s).1∧∀ q,isBr q=true→arityR (envR s).1 q<0:=by
 unfold envR at h ⊢
 split at h
 ·simp at h
 rename_i h1
 split at h
 ·simp at h
 rename_i h2
 rw [if_neg h1,if_neg h2]
 exact env_t s by17
noncomputable def chkB (v:En) (n:Nat) (bs:List Cb) (b:Cb):Bool:=bindC (coP v prims n) v bs [] b
theorem chkT_chkI (o:Option Nat):chkT o=.tup [.val (.int .i64 (max (chkI o) 0)),.val (.bool (decide (chkI o<0)))]:=by
 cases o with
 | none=>rfl
 | some i =>
  have h1:max (chkI (some i)) 0=(i:Int):=by show max (i:Int) 0=i;omega
  have h2:decide (chkI (some i)<0)=false:=by
   apply decide_eq_false
   show ¬ (i:Int)<0
   omega
  rw [h1,h2]
  rfl
end Go.Proofs.YteepjjgooplljaaGreat
namespace Go.Proofs.YteepjjgooplljaaGreat
theorem findL_app (s:ByteArray) (l:List Cb):∀ sc:List Cb,findL s (sc++l)=match findL s l with
    | some c=>some c
    | none=>findL s sc
 | []=>by
  rw [List.nil_append]
  cases findL s l with
  | none=>rfl
  | some c=>rfl
 | b::sc=>by
  rw [List.cons_append,findL,findL_app s l sc]
  cases h:findL s l with
  | some c=>rfl
  | none=>rw [findL]
def Wid (sc sc':List Cb):Prop:=∀ s c,findL s sc=some c→findL s sc'=some c
theorem Wid.app {sc sc':List Cb} (h:Wid sc sc') (l:List Cb):Wid (sc++l) (sc'++l):=fun s c hc=>by
 rw [findL_app] at hc ⊢
 cases q:findL s l with
 | some d=>rw [q] at hc;exact hc
 | none=>rw [q] at hc;exact h s c hc
theorem okL_mono {f g:Co→Ty × Bool}:∀ {ks:List Co} {l:List Ty},(∀ x∈ks,(f x).2=true→g x=f x)→okL f ks l=true→okL g ks l=true
 | [],[],_,_=>rfl
 | [],_::_,_,h=>by simp [okL] at h
 | _::_,[],_,h=>by simp [okL] at h
 | x::xs,t::ts,hg,h=>by
  rw [okL,Bool.and_eq_true,Bool.and_eq_true] at h ⊢
  obtain ⟨⟨h1,h2⟩,h3⟩:=h
  rw [hg x by18 h1]
  exact ⟨⟨h1,h2⟩,okL_mono (fun y hy=>hg y (by simp [hy])) h3⟩
section
variable {v:En} {f g:Co→Ty × Bool} {ks:List Co}
theorem conQ_mono {s:ByteArray} {ts:List Ty} (hg:∀ x∈ks,(f x).2=true→g x=f x) (h:(conQ v f s ts ks).2=true):conQ v g s ts ks=conQ v f s ts ks:=by
 unfold conQ at h ⊢
 cases hc:conC s v.da with
 | none=>rfl
 | some dc =>
  rw [hc] at h
  simp only [] at h ⊢
  by_cases q:dc.1.ps.length=ts.length∧okL f ks (dc.2.ts.map (Ty.turn (putO dc.1.ps ts)))=true
  ·rw [if_pos q,if_pos ⟨q.1,okL_mono hg q.2⟩]
  rw [if_neg q] at h;simp at h
theorem primQ_mono {pm:List Pm} {m:Int} {ts:List Ty} (hg:∀ x∈ks,(f x).2=true→g x=f x) (h:(primQ pm f m ts ks).2=true):primQ pm g m ts ks=primQ pm f m ts ks:=by
 unfold primQ at h ⊢
 by_cases q0:m<1∨pm.length<m
 ·rw [if_pos q0] at h;simp at h
 rw [if_neg q0] at h ⊢
 rw [if_neg q0]
 cases hc:pm[(m - 1).toNat]? with
 | none=>rfl
 | some p =>
  rw [hc] at h
  simp only [] at h ⊢
  by_cases q:p.sc.vs.length=ts.length∧okL f ks (p.sc.t.args.map (Ty.turn (putO p.sc.vs ts)))=true
  ·rw [if_pos q,if_pos ⟨q.1,okL_mono hg q.2⟩]
  rw [if_neg q] at h;simp at h
theorem dictQ_mono {vs:List ByteArray} {s:ByteArray} {t:Ty} (hg:∀ x∈ks,(f x).2=true→g x=f x) (h:(dictQ v vs f s t ks).2=true):dictQ v vs g s t ks=dictQ v vs f s t ks:=by
 unfold dictQ at h ⊢
 cases hc:partsC v s t with
 | none=>rfl
 | some l =>
  rw [hc] at h
  simp only [Bool.and_eq_true] at h
  simp only []
  rw [h.2,okL_mono hg h.2]
theorem appQ_true {f x:Ty × Bool} (h:(appQ f x).2=true):f.2=true∧x.2=true:=by
 unfold appQ at h
 split at h
 ·rename_i hf
  split at h
  ·split at h
   ·rename_i q
    rw [Bool.and_eq_true] at q
    exact ⟨hf,q.2.1⟩
   simp at h
  simp at h
 simp at h
theorem selQ_true {s:ByteArray} {m:Int} {r:Ty × Bool} (h:(selQ v s m r).2=true):r.2=true:=by
 cases q:r.2 with
 | true=>rfl
 | false =>
  rw [selQ_no (fun k=>by rw [q] at k;exact absurd k.1 by18)] at h
  simp at h
theorem bindC_mono {f:List Cb→List ByteArray→Co→Ty × Bool} {sc sc':List Cb} {vs:List ByteArray} {b:Cb} (hg:(f sc (vs++b.vs) b.e).2=true→f sc' (vs++b.vs) b.e=f sc (vs++b.vs) b.e) (h:bindC f v sc vs b=true):bindC f v sc' vs b=true:=by
 unfold bindC at h ⊢
 simp only [Bool.and_eq_true] at h ⊢
 rw [hg h.2.2.1]
 exact h
theorem altQ_mono {f:List Cb→List ByteArray→Co→Ty × Bool} {sc sc':List Cb} {vs:List ByteArray} {t u:Ty} {a:Ca} (hg:∀ l,(f (sc++l) vs a.e).2=true→f (sc'++l) vs a.e=f (sc++l) vs a.e) (h:altQ v f sc vs t u a=true):altQ v f sc' vs t u a=true:=by
 unfold altQ at h ⊢
 cases hp:patC v a.q u with
 | none=>rw [hp] at h;simp at h
 | some l =>
  rw [hp] at h
  simp only [Bool.and_eq_true] at h ⊢
  rw [hg l h.2.1]
  exact h
end
theorem coP_wid (v:En) (pm:List Pm):∀ (n:Nat) (e:Co) (sc sc':List Cb) (vs:List ByteArray),Wid sc sc'→(coP v pm n sc vs e).2=true→coP v pm n sc' vs e=coP v pm n sc vs e
 | 0,e,_,_,_,_,h=>by rw [coP] at h;simp at h
 | n+1,.mk k s m t ts ks al bs,sc,sc',vs,hw,h=>by
  have IH:=fun e=>coP_wid v pm n e sc sc' vs hw
  rw [coP_succ] at h
  rw [coP_succ,coP_succ]
  by_cases hts:(ts.all (rightC v vs))=false
  ·rw [if_pos hts] at h;simp at h
  rw [if_neg hts] at h
  rw [if_neg hts,if_neg hts]
  by_cases k1:k=1
  ·rw [if_pos k1] at h
   rw [if_pos k1,if_pos k1]
   unfold varC at h ⊢
   cases hf:findL s sc with
   | none=>rw [hf] at h;simp at h
   | some b=>rw [hw s b hf]
  rw [if_neg k1] at h
  rw [if_neg k1,if_neg k1]
  by_cases k2:k=2
  ·rw [if_pos k2,if_pos k2]
  rw [if_neg k2] at h
  rw [if_neg k2,if_neg k2]
  by_cases k3:k=3
  ·rw [if_pos k3,if_pos k3]
  rw [if_neg k3] at h
  rw [if_neg k3,if_neg k3]
  by_cases k4:k=4
  ·rw [if_pos k4] at h
   rw [if_pos k4,if_pos k4]
   exact conQ_mono (fun x _=>IH x) h
  rw [if_neg k4] at h
  rw [if_neg k4,if_neg k4]
  by_cases k5:k=5
  ·rw [if_pos k5] at h
   rw [if_pos k5,if_pos k5]
   match ks,h with
   | [],_=>rfl
   | [_],_=>rfl
   | [f,x],h =>
    obtain ⟨h1,h2⟩:=appQ_true (f:=coP v pm n sc vs f) (x:=coP v pm n sc vs x) h
    show appQ (coP v pm n sc' vs f) (coP v pm n sc' vs x)=appQ (coP v pm n sc vs f) (coP v pm n sc vs x)
    rw [IH f h1,IH x h2]
   | _::_::_::_,_=>rfl
  rw [if_neg k5] at h
  rw [if_neg k5,if_neg k5]
  by_cases k6:k=6
  ·rw [if_pos k6] at h
   rw [if_pos k6,if_pos k6]
   match ks,h with
   | [],_=>rfl
   | [x],h =>
    rw [lamK] at h
    rw [lamK,lamK]
    by_cases q:rightC v vs t=true
    ·rw [if_pos q] at h
     rw [if_pos q,if_pos q]
     rw [coP_wid v pm n x (sc++[Cb.mk s [] t co0]) (sc'++[Cb.mk s [] t co0]) vs (hw.app _) h]
    rw [if_neg q,if_neg q]
   | _::_::_,_=>rfl
  rw [if_neg k6] at h
  rw [if_neg k6,if_neg k6]
  by_cases k7:k=7
  ·rw [if_pos k7] at h
   rw [if_pos k7,if_pos k7]
   match ks,h with
   | [],_=>rfl
   | [x],h =>
    rw [letK] at h
    rw [letK,letK]
    by_cases q:unlB (bs.map Cb.s)=true∧(bs.all fun b=>(decide (m≠1) || decide (b.e.k=6)) && bindC (coP v pm n) v (if m=1 then sc++bs else sc) vs b)=true
    ·rw [if_pos q] at h
     have q2:(bs.all fun b=>(decide (m≠1) || decide (b.e.k=6)) && bindC (coP v pm n) v (if m=1 then sc'++bs else sc') vs b)=true:=by
      rw [List.all_eq_true]
      intro b hb
      have:=List.all_eq_true.1 q.2 b hb
      rw [Bool.and_eq_true] at this ⊢
      refine ⟨this.1,bindC_mono (fun hb2=>?_) this.2⟩
      refine coP_wid v pm n b.e _ _ _ ?_ hb2
      by_cases hm:m=1
      ·rw [if_pos hm,if_pos hm];exact hw.app bs
      rw [if_neg hm,if_neg hm];exact hw
     rw [if_pos q,if_pos ⟨q.1,q2⟩]
     exact coP_wid v pm n x (sc++bs) (sc'++bs) vs (hw.app _) h
    rw [if_neg q] at h;simp at h
   | _::_::_,_=>rfl
  rw [if_neg k7] at h
  rw [if_neg k7,if_neg k7]
  by_cases k8:k=8
  ·rw [if_pos k8] at h
   rw [if_pos k8,if_pos k8]
   match ks,h with
   | [],_=>rfl
   | [x],h =>
    rw [casesK] at h
    rw [casesK,casesK]
    by_cases q:rightC v vs t=true
    ·rw [if_pos q] at h
     rw [if_pos q,if_pos q]
     simp only [Bool.and_eq_true] at h
     rw [IH x h.1]
     have q2:(al.all fun a=>altQ v (coP v pm n) sc' vs t (coP v pm n sc vs x).1 a)=true:=by
      rw [List.all_eq_true]
      intro a ha
      exact altQ_mono (fun l hl=>coP_wid v pm n a.e _ _ vs (hw.app l) hl) (List.all_eq_true.1 h.2 a ha)
     rw [q2,h.2]
    rw [if_neg q,if_neg q]
   | _::_::_,_=>rfl
  rw [if_neg k8] at h
  rw [if_neg k8,if_neg k8]
  by_cases k9:k=9
  ·rw [if_pos k9] at h
   rw [if_pos k9,if_pos k9]
   exact primQ_mono (fun x _=>IH x) h
  rw [if_neg k9] at h
  rw [if_neg k9,if_neg k9]
  by_cases k10:k=10
  ·rw [if_pos k10] at h
   rw [if_pos k10,if_pos k10]
   exact dictQ_mono (fun x _=>IH x) h
  rw [if_neg k10] at h
  rw [if_neg k10,if_neg k10]
  by_cases k11:k=11
  ·rw [if_pos k11] at h
   rw [if_pos k11,if_pos k11]
   match ks,h with
   | [],_=>rfl
   | [x],h =>
    have h1:=selQ_true (v:=v) (s:=s) (m:=m) (r:=coP v pm n sc vs x) h
    show selQ v s m (coP v pm n sc' vs x)=selQ v s m (coP v pm n sc vs x)
    rw [IH x h1]
   | _::_::_,_=>rfl
  rw [if_neg k11] at h
  rw [if_neg k11,if_neg k11]
/- checks of programs -/
theorem chkC_none {q:Cb→Bool}:∀ {l:List Cb} {pre:List ByteArray} {i:Nat},chkC q pre l i=none↔dupB pre (l.map Cb.s)=false∧∀ b∈l,q b=true
 | [],pre,i=>by simp [chkC,dupB]
 | b::l,pre,i=>by
  rw [chkC,List.map_cons,dupB]
  by_cases h1:hasB pre b.s=true
  ·rw [if_pos (.inl h1),if_pos h1];simp
  rw [if_neg h1]
  by_cases h2:q b=false
  ·rw [if_pos (.inr h2)];simp [h2]
  rw [if_neg (fun h=>h.elim h1 h2),chkC_none]
  have h3:q b=true:=by simpa using h2
  constructor
  ·rintro ⟨h,k⟩
   exact ⟨h,fun c hc=>by rcases List.mem_cons.1 hc with rfl|hc;exact h3;exact k c hc⟩
  rintro ⟨h,k⟩
  exact ⟨h,fun c hc=>k c (by simp [hc])⟩
theorem dupB_iff:∀ {l pre:List ByteArray},dupB pre l=false↔l.Nodup∧∀ s∈l,s∉pre
 | [],pre=>by simp [dupB]
 | x::l,pre=>by
  rw [dupB,List.nodup_cons]
  by_cases h:hasB pre x=true
  ·rw [if_pos h]
   refine ⟨fun q=>by simp at q,fun q=>absurd (hasB_iff.1 h) (q.2 x by18)⟩
  rw [if_neg h,dupB_iff]
  have hx:x∉pre:=fun q=>h (hasB_iff.2 q)
  constructor
  ·rintro ⟨h1,h2⟩
   refine ⟨⟨fun q=>h2 x q by18,h1⟩,fun s hs=>?_⟩
   rcases List.mem_cons.1 hs with rfl|hs
   ·exact hx
   exact fun q=>h2 s hs (by simp [q])
  rintro ⟨⟨h1,h2⟩,h3⟩
  refine ⟨h2,fun s hs q=>?_⟩
  rcases List.mem_append.1 q with q|q
  ·exact h3 s (by simp [hs]) q
  rw [List.mem_singleton] at q
  subst q
  exact h1 hs
theorem findL_nodup {s:ByteArray} {c:Cb}:∀ {l:List Cb},(l.map Cb.s).Nodup→(findL s l=some c↔c∈l∧c.s=s)
 | [],_=>by simp [findL]
 | b::l,h=>by
  rw [List.map_cons,List.nodup_cons] at h
  rw [findL]
  have IH:=fun c=>findL_nodup (s:=s) (c:=c) h.2
  cases q:findL s l with
  | some d =>
   have hd:=(IH d).1 q
   simp only [Option.some.injEq]
   constructor
   ·rintro rfl;exact ⟨by simp [hd.1],hd.2⟩
   rintro ⟨h1,h2⟩
   rcases List.mem_cons.1 h1 with rfl|h1
   ·exact absurd (List.mem_map.2 ⟨d,hd.1,hd.2.trans h2.symm⟩) h.1
   exact Option.some.inj (q.symm.trans ((IH c).2 ⟨h1,h2⟩))
  | none =>
   simp only []
   by_cases hb:sameB b.s s=true
   ·rw [if_pos hb]
    simp only [Option.some.injEq]
    constructor
    ·rintro rfl;exact ⟨by simp,Yt.1 hb⟩
    rintro ⟨h1,h2⟩
    rcases List.mem_cons.1 h1 with rfl|h1
    ·rfl
    have:=(IH c).2 ⟨h1,h2⟩;rw [q] at this;cases this
   rw [if_neg hb]
   constructor
   ·intro q2;cases q2
   rintro ⟨h1,h2⟩
   rcases List.mem_cons.1 h1 with rfl|h1
   ·exact absurd (Yt.2 h2) hb
   have:=(IH c).2 ⟨h1,h2⟩;rw [q] at this;cases this
theorem wid_rev {l:List Cb} (h:(l.map Cb.s).Nodup):Wid l l.reverse:=fun s c hc=>by
 have h2:(l.reverse.map Cb.s).Nodup:=by rw [List.map_reverse];exact List.pairwise_reverse.2 (List.Pairwise.imp (fun hab=>hab.symm) h)
 exact (findL_nodup h2).2 (by rw [List.mem_reverse];exact (findL_nodup h).1 hc)
theorem wid_snoc {l:List Cb} {b:Cb} (h:∀ c∈l,c.s≠b.s):Wid l (l++[b]):=fun s c hc=>by
 rw [findL_snoc]
 rw [if_neg ?_]
 ·exact hc
 intro q
 have hm:c∈l∧c.s=s:=by
  have:∀ {l:List Cb},findL s l=some c→c∈l∧c.s=s:=by
   intro l
   induction l with
   | nil=>intro h;simp [findL] at h
   | cons x l ih =>
    intro h
    rw [findL] at h
    cases q:findL s l with
    | some d=>rw [q] at h;cases h;exact ⟨by simp [(ih q).1],(ih q).2⟩
    | none =>
     rw [q] at h
     simp only [] at h
     split at h
     ·rename_i hx;cases h;exact ⟨by simp,Yt.1 hx⟩
     simp at h
  exact this hc
 exact h c hm.1 (hm.2.trans (Yt.1 q).symm)
open Go.RowKit
mutual
theorem Ty.bulk4:∀ t:Ty,4 * t.size≤bulks t.cells
 | .mk k s n ks=>by
  have h:=Ty.bulks4 ks
  simp only [Ty.size,Ty.cells,bulks,AV.bulk]
  omega
theorem Ty.bulks4:∀ l:List Ty,4 * Ty.sizes l≤bulkss (Ty.cellss l)
 | []=>Nat.zero_le _
 | t::l=>by
  have h1:=Ty.bulk4 t
  have h2:=Ty.bulks4 l
  simp only [Ty.sizes,Ty.cellss,bulkss]
  omega
end
structure CbG (b:Cb):Prop where
 ok:b.e.Ok
 vl:b.vs.length≤1048576
 ty:TK 1000000 b.t
 ez:bulks b.e.cells≤1048576
theorem CbG.of {b:Cb} (h:b.e.Ok) (hz:bulks b.cells≤1048576):CbG b:=by
 cases b with|mk s vs t e =>
 simp only [Cb.cells,bulks,bulks_app,AV.bulk] at hz
 have h1:=strs_bulk vs
 have h2:=Ty.bulk4 t
 exact ⟨h,by show vs.length≤1048576;omega,TK.size (by show t.size≤1000000;omega) by16,by show bulks e.cells≤1048576;omega⟩
theorem Cb.cells_bulk {b:Cb}:∀ {l:List Cb},b∈l→bulks b.cells≤bulkss (Cb.cellss l)
 | c::l,h=>by
  rw [Cb.cellss,bulkss]
  rcases List.mem_cons.1 h with rfl|h
  ·omega
  have:=Cb.cells_bulk h;omega
theorem cbg_sk {bs:List Cb} (hn:bs.length≤121) (h:∀ b∈bs,CbG b) {vs:List ByteArray} (hv:vs.length≤1100000):SK 1100000 bs vs:=⟨by omega,hv,fun b hb=>(h b hb).ty.up by16⟩
theorem chk_coreg (v:En) (hv:EnT v) (n:Nat) (bs:List Cb) (hn:bs.length≤121) (h:∀ b∈bs,CbG b) (b:Cb) (hb:CbG b) (hbn:b.e.size≤n):BCall Tryz.prog 43 [.agg (ckC v (Pm.cellss prims) bs []),.agg b.cells] (chkB v n bs b=true):=by
 refine coBind_c v prims bs [] (coP v prims n) b by18 (by have:=hb.vl;omega) ?_
 have hN:=Co.n_bulk b.e
 have hz:=hb.ez
 exact (typ_all v hv prims prims_size n b.e 1100000 bs ([]++b.vs) hbn hb.ok.okk (Co.sz_bulk _ hb.ez) (cbg_sk hn h (by have:=hb.vl;simp;omega)) by17).1
theorem chk_refg (v:En) (hv:EnT v) (hbr:NoBr v) (n:Nat) (bs:List Cb) (hn:bs.length≤121) (h:∀ b∈bs,CbG b) (b:Cb) (hb:CbG b) (hbn:b.e.size≤n):BCall Tryz.prog 45 [.agg (wcC v (Pm.cellss prims) bs []),.agg b.cells] (chkB v n bs b=true):=by
 refine rBind_c v hbr prims bs [] (coP v prims n) b by17 by18 (by have:=hb.vl;omega) ?_
 have hN:=Co.n_bulk b.e
 have hz:=hb.ez
 exact rtyp_all v hv hbr prims prims_size n b.e 1100000 bs ([]++b.vs) hbn hb.ok.okk (Co.sz_bulk _ hb.ez) (cbg_sk hn h (by have:=hb.vl;simp;omega)) by17
theorem chkC_snoc (q:Cb→Bool) (b:Cb):∀ (l:List Cb) (pre:List ByteArray) (i:Nat),dupB pre (l.map Cb.s)=false→(∀ c∈l,q c=true)→chkC q pre (l++[b]) i=if hasB (pre++l.map Cb.s) b.s=true∨q b=false then some (i+l.length) else none
 | [],pre,i,_,_=>by
  rw [List.nil_append,chkC,List.map_nil,List.append_nil]
  rfl
 | c::l,pre,i,h,hq=>by
  rw [List.map_cons,dupB] at h
  have h1:¬ hasB pre c.s=true:=fun q=>by rw [if_pos q] at h;simp at h
  rw [if_neg h1] at h
  rw [List.cons_append,chkC,if_neg (fun k=>k.elim h1 (fun k=>by rw [hq c by18] at k;simp at k)),chkC_snoc q b l _ _ h (fun c hc=>hq c (by simp [hc])),List.map_cons,List.append_assoc,List.length_cons]
  rw [show ([c.s]++l.map Cb.s:List ByteArray)=c.s::l.map Cb.s from rfl,show i+1+l.length=i+(l.length+1) by omega]
theorem more_law (v:En) (n:Nat) (bs:List Cb) (b:Cb) (hn:∀ c∈bs,c.s≠b.s) (h:chkI (chkC (chkB v n bs) [] bs 0)<0):chkI (chkC (chkB v n bs.reverse) [] bs.reverse 0)<0∧(chkI (chkC (chkB v n (bs++[b])) [] (bs++[b]) 0)<0∨chkI (chkC (chkB v n (bs++[b])) [] (bs++[b]) 0)=(bs.length:Int)):=by
 have h0:chkC (chkB v n bs) [] bs 0=none:=by
  cases q:chkC (chkB v n bs) [] bs 0 with
  | none=>rfl
  | some i=>rw [q] at h;simp only [chkI] at h;omega
 obtain ⟨hd,hq⟩:=chkC_none.1 h0
 have hnd:=(dupB_iff.1 hd).1
 have mono:∀ {sc:List Cb},Wid bs sc→∀ c∈bs,chkB v n sc c=true:=fun hw c hc =>
  bindC_mono (fun k=>coP_wid v prims n c.e _ _ _ hw k) (hq c hc)
 constructor
 ·have:chkC (chkB v n bs.reverse) [] bs.reverse 0=none:=by
   refine chkC_none.2 ⟨dupB_iff.2 ⟨?_,by simp⟩,fun c hc=>mono (wid_rev hnd) c (List.mem_reverse.1 hc)⟩
   rw [List.map_reverse]
   exact List.pairwise_reverse.2 (List.Pairwise.imp (fun hab=>hab.symm) hnd)
  rw [this]
  decide
 rw [chkC_snoc _ b bs [] 0 hd (mono (wid_snoc hn))]
 split
 ·right
  simp only [chkI,Nat.zero_add]
 left;decide
theorem awake21_c:BCall Tryz.prog 7 [] True:=by
 have HT:=coType_c (.mk [] [] []) [] [] ex21 _ ex21_typ
 rw [if_pos rfl] at HT
 have hc1:(Ty.cellss [tInt,tInt])[1]?=some [.val (.int .i64 3),.val (.string kIntT),.val (.int .i64 0),.seq 4 []]:=rfl
 refine Zc Tryz.func7 U (by kernel_rfl) U (Wc U) ?_
 refine Qe ?_
 refine Qs ?_
 refine Zb 4 U U U (Zm (ns:=[0,1]) (xs:=[.const (.int .i64 3),.const (.string ⟨#[73,110,116]⟩)]) U tz_24 U tfl_24 U U U U ?_)
 refine QE ?_;intro b1
 refine QO ?_
 refine Qu ?_
 refine Qf8 ?_
 refine Q9 ?_
 refine Zb 8 U U U (Zm (ns:=[0,1]) (xs:=[.const (.int .i64 1),.const (.string ⟨#[120]⟩)]) U tz_29 U tfl_29 U U U U ?_)
 refine Zb 9 U U U (Zf (xs:=[.tmp 8]) el_25 U U U U U U (Wc U) (Zb 10 U U U (Zm (ns:=[0,1,3,5]) (xs:=[.const (.int .i64 6),.const (.string ⟨#[120]⟩),.tmp 7,.tmp 9]) U tz_29 U tfl_29 U U U U ?_)))
 refine Zb 11 U U U (Zd (xs:=[.tmp 6,.const (.slice none 0 0),.const (.slice none 0 0),.tmp 10])  U U HT by1 ?_)
 refine QdA ?_;intro b2
 refine QO ?_
 refine QG ?_
 refine Zw 0 (True) ?_ _ _ U ?_
 ·skip
  refine Qai ?_
  refine Qaq ?_
  refine Qbf ?_;intro c18 h18
  refine Qv ?_
  obtain ⟨rfl,g18⟩|⟨rfl,g18⟩:=Za h18
  ·exact absurd U g18
  skip
  refine Qaq ?_
  refine QbC ?_;intro n23
  refine Qak ?_;intro c24 h24
  refine Qv ?_
  obtain ⟨rfl,g24⟩|⟨rfl,g24⟩:=Za h24
  ·exact absurd U g24
  skip
  refine Qaq ?_
  refine Zo 29 U U U U U (Zh U te_22 U (.seq _ _) U U (hc1) ?_)
  refine QA ?_
  refine Qbf ?_;intro c32 h32
  refine QC ?_
  refine Wa U ?_ by6 by4
  first|(simp_all;done)|exact iff_t trivial|exact ⟨fun _=>trivial,fun _=>h32.2 rfl⟩
 intro c0 h0
 refine QI ?_
 exact Ze U U (Xu _) (Xp _) ⟨⟨_,h0,U⟩,U⟩
end Go.Proofs.YteepjjgooplljaaGreat
namespace Go.Proofs.YteepjjgooplljaaGreat
open Go.ChangeShapes Go.WideShapes Go.ChangeAt Go.RowKit
theorem CoreMore_c (s:ByteArray) (bs:List Cb) (b:Cb) (hlim:∀ c∈bs,c.Lim) (hlb:b.e.Lim) (hz:bulkss (Cb.cellss bs)≤1048576) (hzb:bulks b.cells≤1048576):ACall Tryz.prog 5 [.val (.string s),.agg [.seq 17 (Cb.cellss bs)],.agg b.cells] [] (fun v _=>v=.val (.bool true)):=by
 have HE:=Env_c s
 have hok:=env_ok (s:=s)
 obtain ⟨⟨v,c8⟩,he⟩:∃ e,envR s=e:=⟨_,rfl⟩
 rw [he] at HE hok
 simp only [] at HE hok
 clear he
 have HS:=coSmall_c b.e hlb 300 by16 by16
 have hbe:=fun q=>(Co.small_size (e:=b.e) (most:=300) hlb by16 by16 q).2
 generalize b.e.small 300=sm at HS hbe
 have HK:=fun (c:Cb) (hc:c∈bs)=>coCount_c c.e.size c.e 2000 (Nat.le_refl _) (by have:=hlim c hc;cases c;rw [Cb.Lim] at this;exact this.1) by17 by17
 have hcb:=fun (c:Cb) (hc:c∈bs)=>Co.cnt_b c.e 2000 (by have:=hlim c hc;cases c;rw [Cb.Lim] at this;exact this.1) by17 by17
 have hlbs:=Cb.cellss_len bs
 obtain ⟨N,hN⟩:∃ N,N=Cb.sizes (bs++[b]):=⟨_,rfl⟩
 have hsz:∀ c∈bs++[b],c.e.size≤N:=fun c hc=>by have:=Cb.size_mem hc;rw [hN];cases c;rw [Cb.size] at this;exact this
 have hG:sm→(∀ c∈bs,c.e.Ok)→∀ c∈bs++[b],CbG c:=fun h1 h2 c hc=>by
  rcases List.mem_append.1 hc with h|h
  ·exact CbG.of (h2 c h) (by have:=Cb.cells_bulk h;omega)
  rw [List.mem_singleton] at h
  subst h
  exact CbG.of (hbe h1) hzb
 have HC:=fun (h1:c8=true) (l:List Cb) (hl:l.length≤121) (h3:∀ c∈l,CbG c∧c.e.size≤N)=>coCheck_c v l (chkB v N l) (fun c hc=>chk_coreg v (hok h1).1 N l hl (fun c hc=>(h3 c hc).1) c (h3 c hc).1 (h3 c hc).2)
 have HD:=fun (h1:c8=true) (l:List Cb) (hl:l.length≤121) (h3:∀ c∈l,CbG c∧c.e.size≤N)=>rCheck_c v l (chkB v N l) (fun c hc=>chk_refg v (hok h1).1 (hok h1).2 N l hl (fun c hc=>(h3 c hc).1) c (h3 c hc).1 (h3 c hc).2)
 simp only [chkT_chkI] at HC
 have HL:=fun hn=>more_law v N bs b hn
 have hrevl:(Cb.cellss bs.reverse).length=bs.length:=by rw [Cb.cellss_len,List.length_reverse]
 have hrev:∀ i,i<bs.length→bs.reverse[i]?=bs[bs.length - 1 - i]?:=fun i hi=>List.getElem?_reverse hi
 have HC1:=fun h1 hl h3=>HC h1 bs hl h3
 have HC2:=fun h1 hl h3=>HC h1 bs.reverse hl h3
 have HC3:=fun h1 hl h3=>HC h1 (bs++[b]) hl h3
 have HD3:=fun h1 hl h3=>HD h1 (bs++[b]) hl h3
 clear HC HD
 generalize chkI (chkC (chkB v N bs) [] bs 0)=r1 at *
 generalize chkI (chkC (chkB v N bs.reverse) [] bs.reverse 0)=r2 at *
 generalize chkI (chkC (chkB v N (bs++[b])) [] (bs++[b]) 0)=r3 at *
 rw [Cb.cellss_app] at HC3 HD3
 obtain ⟨d1,hd1⟩:∃ d,decide (r1<0)=d:=⟨_,rfl⟩
 obtain ⟨d2,hd2⟩:∃ d,decide (r2<0)=d:=⟨_,rfl⟩
 obtain ⟨d3,hd3⟩:∃ d,decide (r3<0)=d:=⟨_,rfl⟩
 rw [hd1] at HC1
 rw [hd2] at HC2
 rw [hd3] at HC3
 replace hd1:d1=true↔r1<0:=by rw [← hd1];simp
 replace hd2:d2=true↔r2<0:=by rw [← hd2];simp
 replace hd3:d3=true↔r3<0:=by rw [← hd3];simp
 have hsz1:∀ c∈bs,c.e.size≤N:=fun c hc=>hsz c (by simp [hc])
 clear hok hlim hz hzb hlb hN
 obtain ⟨da,cl,ins⟩:=v
 obtain ⟨xb,xvs,⟨xwk,xws,xwn,xwl⟩,⟨xk,xs,xn,⟨xtk,xts,xtn,xtl⟩,xus,xks,xal,xbs⟩⟩:=b
 simp only [Cb.cells,Cb.cellss,Ty.cells,Co.cells,Cb.s,En.cells,List.cons_append,List.nil_append] at *
 refine Zc Tryz.func5 U (by kernel_rfl) U (Wc U) ?_
 refine Qe ?_
 refine Qcr ?_
 refine Qea ?_
 refine Qbi ?_
 refine Zb 21 U U U (Zd (xs:=[]) U U (awake21_c.yes trivial) by2 ?_)
 refine Q5 ?_;intro c22 h22
 try replace h22:=Ym h22 h21
 refine Qa ?_
 obtain ⟨rfl,g22⟩|⟨rfl,g22⟩:=Za h22
 ·refine Qau ?_
  refine Zb 25 U U U (Zd (xs:=[.tmp 24]) U U (HE) by2 ?_)
  refine Qb ?_
  refine QbF ?_
  refine QfD ?_;intro b7
  refine QfE ?_
  refine Q1 ?_
  refine Zw 41 (c8=false∨120<bs.length∨¬ sm) ?_ _ _ U ?_
  ·skip
   refine Qbx ?_;intro c29 h29
   try replace h29:=Ym h29 h27
   refine Qb ?_
   obtain ⟨rfl,g29⟩|⟨rfl,g29⟩:=Za h29
   ·skip
    refine QA ?_
    refine Qf9 ?_;intro n33
    refine Qcp ?_;intro c34 h34
    refine Qv ?_
    obtain ⟨rfl,g34⟩|⟨rfl,g34⟩:=Za h34
    ·skip
     refine QaI ?_
     refine QgS ?_
     refine Zo 39 U U U U U (Zg (xs:=[.tmp 38,.const (.int .i64 300)]) U U (HS) by2 ?_);intro c39 h39
     refine Qal ?_;intro c40 h40
     try replace h40:=Ym h40 h39
     refine Qm ?_
     refine Wa U ?_ by6 by4
     clear HE HK HC1 HC2 HC3 HD3 HL HS hG;first|(simp_all;done)|(simp_all;omega)|grind
    skip
    refine QaX ?_
    refine Wa U ?_ by6 by4
    clear HE HK HC1 HC2 HC3 HD3 HL HS hG;first|(simp_all;done)|(simp_all;omega)|grind
   skip
   refine Qx ?_
   refine Qv ?_
   refine QaX ?_
   refine Wa U ?_ by6 by4
   clear HE HK HC1 HC2 HC3 HD3 HL HS hG;first|(simp_all;done)|(simp_all;omega)|grind
  intro c41 h41
  refine Qc ?_
  obtain ⟨rfl,g41⟩|⟨rfl,g41⟩:=Za h41
  ·refine Qp ?_
   have h8:c8=true:=by
    cases c8 with
    | true=>rfl
    | false=>exact absurd (.inl rfl) g41
   have h120:bs.length≤120:=by
    have:¬ 120<bs.length:=fun q=>g41 (.inr (.inl q))
    omega
   have hsm:sm:=Classical.byContradiction fun q=>g41 (.inr (.inr q))
   replace hG:=hG hsm
   replace HC1:=HC1 h8 by17
   replace HC2:=HC2 h8 (by rw [List.length_reverse];omega)
   replace HC3:=HC3 h8 (by rw [List.length_append];show bs.length+1≤121;omega)
   replace HD3:=HD3 h8 (by rw [List.length_append];show bs.length+1≤121;omega)
   refine Qi ?_
   refine Qc6 ?_
   refine QcK ?_;intro n44
   refine Qam ?_
   apply Zu (rg [(0,4),(6,1),(8,5),(17,1),(21,22),(45,19)]) (σ:=Nat × Int) (fun zz=>match zz with|(i,n)=>[(9,.val (.int .i64 n)),(45,.val (.int .i64 i))]) (fun zz=>match zz with|(i,n)=>i≤bs.length∧0≤n∧n<2000∧∀ c∈bs.take i,c.e.Ok∧c.s≠xb) (fun zz=>match zz with|(i,n)=>bs.length - i) ((0,0))
   ·repeat' (first|exact Wf|apply Wd rfl|apply We rfl)
   ·exact ⟨Nat.zero_le _,by show (0:Int)≤0;omega,by show (0:Int)<2000;omega,by simp⟩
   ·exact by5
   rintro ⟨i,n⟩ hI
   try dsimp only [List.cons_append,List.nil_append] at hI ⊢
   obtain ⟨hi,hn0,hn1,hP⟩:=hI
   refine Qan ?_;intro c46 h46
   refine Qy ?_
   obtain ⟨rfl,g46⟩|⟨rfl,g46⟩:=Za h46
   ·refine Qbs ?_
    rw [List.take_of_length_le by17] at hP
    replace hG:=hG (fun c hc=>(hP c hc).1)
    replace HC1:=HC1 (fun c hc=>⟨hG c (by simp [hc]),hsz1 c hc⟩)
    replace HC2:=HC2 (fun c hc=>⟨hG c (by rw [List.mem_reverse] at hc;simp [hc]),hsz1 c (by rw [List.mem_reverse] at hc;exact hc)⟩)
    replace HC3:=HC3 (fun c hc=>⟨hG c hc,hsz c hc⟩)
    replace HD3:=HD3 (fun c hc=>⟨hG c hc,hsz c hc⟩)
    replace HL:=HL (fun c hc=>(hP c hc).2)
    clear hG HK hcb HS hbe hsz hsz1
    refine Qi ?_
    refine QfF ?_
    refine Zb 66 U U U (Zt (cs':=[_]) U ta_36 U U U (Zb 67 U U U (Zd (xs:=[.tmp 65,.tmp 66]) U U (HC1) by2 ?_)))
    refine Qa0 ?_
    refine QK ?_
    refine Q5 ?_;intro c71 h71
    try replace h71:=Ym h71 h69
    refine Qa ?_
    obtain ⟨rfl,g71⟩|⟨rfl,g71⟩:=Za h71
    ·refine Qp ?_
     have hr1:r1<0:=hd1.1 (by simpa using g71)
     obtain ⟨L1,L2⟩:=HL hr1
     refine Qi ?_
     refine Zb 14 U U U (Yb (cs':=[_]) U tz_36 U U ?_);intro b14
     refine Qa8 ?_
     refine Qd ?_
     refine QcK ?_;intro n74
     refine Qam ?_
     refine Yp 46 17 ?_
     apply Yl (rg [(0,4),(8,6),(15,1),(17,1),(21,53),(75,19)]) (σ:=Nat × Value) (fun zz=>match zz with|(j,u)=>[(75,.val (.int .i64 j))]) (fun zz=>match zz with|(j,u)=>[.loc b14 [.own u 17 (Cb.cellss (bs.reverse.take j))],.loc b7 [.seq 5 (Da.cellss da),.seq 6 (Cl.cellss cl),.seq 8 (In.cellss ins)],.own 46 17 u]) (fun zz=>match zz with|(j,u)=>j≤bs.length) (fun zz=>match zz with|(j,u)=>bs.length - j) ((0,.slice none 0 0))
     ·repeat' (first|exact Wf|apply Wd rfl|apply We rfl)
     ·exact Nat.zero_le _
     ·exact by5
     ·exact (Xs _ (Xw (Le.nilOwn 17) (Xv _)) (Xt U))
     rintro ⟨j,u⟩ hI
     try dsimp only [List.cons_append,List.nil_append] at hI ⊢
     refine Qan ?_;intro c76 h76
     refine Qy ?_
     obtain ⟨rfl,g76⟩|⟨rfl,g76⟩:=Za h76
     ·refine Qag ?_
      rw [List.take_of_length_le (by rw [List.length_reverse];omega)]
      refine c_drawnEF [1,2,4,5,0,3,6,7,8,9] [0,3,6,8,9] [[],[],[1],[0,1,2],[],[4],[0,1,2,3,4,5],[0,1,2,3,4,5,6],[],[0,1,2,3,4,5,6,7,8]] 8 (cs0:=[_]) Yx U U U U tz_36 U U (EOpsF.d 95 (none) (i:=1) U U U U U U (op_fieldAddr_c U tf_36_0 U U ⟨U,U⟩) ?_)
      refine EOpsF.d 96 (none) (i:=2) U U U U U U (op_load_c1 U ta_27 U U ⟨U,U⟩) ?_
      refine EOpsF.d 98 (none) (i:=4) U U U U U U (Zt (cs':=[_,_,_,_,_,_,_,_,_,_,_,_,_,_,_,_,_]) U ta_46 U U U ⟨U,U⟩) ?_
      refine EOpsF.d 99 (none) (i:=5) U U U U U U (Zf (xs:=[.tmp 98]) el_27 U U U U U U (Wc U) ⟨U,U⟩) ?_
      refine EOpsF.nw (i:=0) U U U U (Ys (xs:=[]) el_27 U U U U U U (Wc U) (fun u94=>⟨_,U,?_⟩))
      refine EOpsF.w 3 (i:=3) U U U U U U (Zv (i:=0) el_27 U U U U (.seq _ _) by7 (fun u97=>⟨_,U,?_⟩))
      refine EOpsF.w 3 (i:=6) U U U U U U (Zv (i:=0) el_27 U U U U (.seq _ _) by7 (fun u100=>⟨_,U,?_⟩))
      refine EOpsF.d 101 (none) (i:=7) U U U U U U (Zm (ns:=[0]) (xs:=[.tmp 100]) U tz_36 U tfl_36 U U U U ⟨U,U⟩) ?_
      refine EOpsF.free (i:=8) U U U ?_;intro b16
      refine EOpsF.w 4 (i:=9) U U U U U U (Zp (cs':=[_]) (i:=0) U ts_36 U U U U U (Wc U) U ⟨_,U,?_⟩)
      show AGo _ _ _ _ _ _ _
      refine Qdy ?_
      refine QeO ?_
      refine Zb 104 U U U (Zs (cs':=[_]) (i:=0) U ta_36 U U U U (Zb 105 U U U (Zd (xs:=[.tmp 103,.tmp 104]) U U (HC2) by2 ?_)))
      refine Qa0 ?_
      refine Qs ?_
      refine QeO ?_
      refine Zb 110 U U U (Zs (cs':=[_]) (i:=4) U ta_36 U U U U (Zb 111 U U U (Zd (xs:=[.tmp 109,.tmp 110]) U U (HC3) by2 ?_)))
      refine Qa0 ?_
      refine QG ?_
      refine Zw 6 (True) ?_ _ _ U ?_
      ·skip
       refine Qai ?_
       have h115:(d2=true↔d2=true):=Iff.rfl
       obtain ⟨rfl,g115⟩|⟨rfl,g115⟩:=Za h115
       ·skip
        refine QaU ?_
        refine QaS ?_
        refine QaS ?_
        refine QaU ?_
        refine Qcb ?_
        refine QaS ?_
        refine QbO ?_
        refine Qv ?_
        refine Qx ?_
        refine QbI ?_
        refine Wa U ?_ by6 by4
        clear HE HC1 HC2 HC3 HD3;first|(simp_all;done)|(simp_all;omega)|grind
       skip
       refine QaM ?_
       have h117:(d3=true↔d3=true):=Iff.rfl
       obtain ⟨rfl,g117⟩|⟨rfl,g117⟩:=Za h117
       ·skip
        refine QaU ?_
        refine Qbz ?_
        refine QaM ?_
        refine QA ?_
        refine Qf9 ?_;intro n125
        refine Qak ?_;intro c126 h126
        refine QdC ?_
        obtain ⟨rfl,g126⟩|⟨rfl,g126⟩:=Za h126
        ·skip
         refine Qx ?_
         refine QbI ?_
         refine Wa U ?_ by6 by4
         clear HE HC1 HC2 HC3 HD3;first|(simp_all;done)|(simp_all;omega)|grind
        skip
        refine Qf ?_
        refine QeY ?_
        refine Qga ?_
        refine Zo 133 U U U U U (Zd (xs:=[.tmp 131,.tmp 132]) U U (HD3) by2 ?_)
        refine Qbn ?_;intro c134 h134
        refine Qgb ?_;intro c135 h135
        refine QC ?_
        refine Wa U ?_ by6 by4
        clear HE HC1 HC2 HC3 HD3;first|(simp_all;done)|(simp_all;omega)|grind
       skip
       refine Qat ?_;intro c119 h119
       refine Qbz ?_
       refine Qf ?_
       obtain ⟨rfl,g119⟩|⟨rfl,g119⟩:=Za h119
       ·skip
        refine Qf ?_
        refine QA ?_
        refine Qf9 ?_;intro n125
        refine Qak ?_;intro c126 h126
        refine QdC ?_
        obtain ⟨rfl,g126⟩|⟨rfl,g126⟩:=Za h126
        ·skip
         refine Qx ?_
         refine QbI ?_
         refine Wa U ?_ by6 by4
         clear HE HC1 HC2 HC3 HD3;first|(simp_all;done)|(simp_all;omega)|grind
        skip
        refine Qf ?_
        refine QeY ?_
        refine Qga ?_
        refine Zo 133 U U U U U (Zd (xs:=[.tmp 131,.tmp 132]) U U (HD3) by2 ?_)
        refine Qbn ?_;intro c134 h134
        refine Qgb ?_;intro c135 h135
        refine QC ?_
        refine Wa U ?_ by6 by4
        clear HE HC1 HC2 HC3 HD3;first|(simp_all;done)|(simp_all;omega)|grind
       skip
       refine QaK ?_
       refine QdC ?_
       refine Qf ?_
       refine QeY ?_
       refine Qga ?_
       refine Zo 133 U U U U U (Zd (xs:=[.tmp 131,.tmp 132]) U U (HD3) by2 ?_)
       refine Qbn ?_;intro c134 h134
       refine Qgb ?_;intro c135 h135
       refine QC ?_
       refine Wa U ?_ by6 by4
       clear HE HC1 HC2 HC3 HD3;first|(simp_all;done)|(simp_all;omega)|grind
      intro c6 h6
      refine QI ?_
      exact Ze U U (Xu _) (Xp _) by15
     refine QaV ?_
     refine Q0 ?_
     refine Qj ?_
     obtain ⟨⟨yb,yvs,⟨ywk,yws,ywn,ywl⟩,⟨yk,ys,yn,⟨ytk,yts,ytn,ytl⟩,yus,yks,yal,ybs⟩⟩,hxy⟩:=Zj (l:=bs) (i:=(bs.length - 1 - j)) by8
     have hcy:=Cb.cellss_get hxy
     have hmy:=Wg hxy
     have hxr:bs.reverse[j]?=_:=(hrev j by17).trans hxy
     have htr:=Yd hxr
     have hlt:(Cb.cellss (bs.reverse.take j)).length≤120:=by rw [Cb.cellss_len,List.length_take,List.length_reverse];omega
     refine Yh [0,1,2,3,4,5,6,7,8,9,10,11,12,13,14,15] [13,15] [[],[0],[],[2],[],[4],[4,5],[4,5,6],[],[4,5,6,7,8],[2,3,4,5,6,7,8,9],[2,3,4,5,6,7,8,9,10],[2,3,4,5,6,7,8,9,10,11],[0,1,2,3,4,5,6,7,8,9,10,11,12],[0,1,2,3,4,5,6,7,8,9,10,11,12,13],[0,1,2,3,4,5,6,7,8,9,10,11,12,13,14]] Yx U ?_
     refine Qa7 ?_
     refine QaL ?_
     refine QaL ?_
     refine Zi 84 none (i:=6) U U U U U (Yw U tu_27 U (.seq _ _) (fun _=>⟨U,U⟩)) ?_
     refine QhD ?_
     refine Qw ?_
     refine QhD ?_
     refine Zi 88 (none) (i:=10) U U U U U (Zh (i:=bs.length - 1 - j) U te_27 U (.seq _ _) U by11 (hcy) ⟨U,U⟩) ?_
     refine Zi 89 (none) (i:=11) U U U U U (Zt (cs':=[_,_,_,_,_,_,_,_,_,_,_,_,_,_,_,_,_]) U ta_46 U U U ⟨U,U⟩) ?_
     refine Zi 90 (none) (i:=12) U U U U U (Zf (xs:=[.tmp 89]) el_27 U U U U U U (Wc U) ⟨U,U⟩) ?_
     refine Yc 2 (i:=13) U U U U U (Zv (i:=0) el_27 U U U U (.seq _ _) by7 (fun u91=>⟨_,U,?_⟩))
     refine QW ?_
     refine Yc 0 (i:=15) U U U U U (Zp (cs':=[_]) (i:=0) U ts_27 U U U U U (Wc U) U ⟨_,U,?_⟩)
     show AGo _ _ _ _ _ _ _
     refine QcC ?_
     refine ⟨(j+1,u91),by show j+1≤bs.length;omega,by show bs.length - (j+1)<bs.length - j;omega,by5,Xs _ (Xw (Wb (by rw [htr,Cb.cellss_app];rfl)) (Xv _)) (Xt U)⟩
    refine QD ?_
    exact Ze U U (Xu _) (Xp _) U
   refine Qk ?_
   obtain ⟨⟨zb,zvs,⟨zwk,zws,zwn,zwl⟩,⟨zk,zs,zn,⟨ztk,zts,ztn,ztl⟩,zus,zks,zal,zbs⟩⟩,hxz⟩:=Zj (l:=bs) (i:=i) by8
   have hcz:=Cb.cellss_get hxz
   have hmz:=Wg hxz
   refine Qi ?_
   refine QfU ?_
   refine QdJ ?_
   refine QdN ?_;intro b11
   refine Qdk ?_
   refine Qy ?_
   have HKz:=HK _ hmz
   obtain ⟨z1,z2,z3⟩:=hcb _ hmz
   have hts:=Yd hxz
   simp only [Cb.e] at HKz z1 z2 z3
   generalize (Co.mk zk zs zn ⟨ztk,zts,ztn,ztl⟩ zus zks zal zbs).cnt 2000=cn at *
   refine Qh ?_
   refine Qt ?_
   refine Zb 51 U U U (Zs (cs':=[_,_,_,_,_,_,_,_,_,_,_]) (i:=0) U ta_29 U U U U (Zb 52 U U U (Zd (xs:=[.tmp 51,.const (.int .i64 2000)]) U U (HKz) by2 ?_)))
   refine Qa6 ?_
   refine QG ?_
   refine Zw 62 (¬ (n+cn<2000∧zb≠xb)) ?_ _ _ U ?_
   ·skip
    refine QbG ?_;intro c55 h55
    refine Qb ?_
    obtain ⟨rfl,g55⟩|⟨rfl,g55⟩:=Za h55
    ·skip
     refine Qaq ?_
     refine QA ?_
     refine Qbf ?_;intro c61 h61
     refine Qm ?_
     refine Wa U ?_ by6 by4
     clear HE HK HC1 HC2 HC3 HD3 HL HS hG HKz hcb;first|(simp_all;done)|(simp_all;omega)|grind
    skip
    refine QaH ?_
    refine Wa U ?_ by6 by4
    clear HE HK HC1 HC2 HC3 HD3 HL HS hG HKz hcb;first|(simp_all;done)|(simp_all;omega)|grind
   intro c62 h62
   refine Qc ?_
   obtain ⟨rfl,g62⟩|⟨rfl,g62⟩:=Za h62
   ·refine Qbu ?_
    obtain ⟨p1,p2⟩:=Classical.not_not.1 g62
    refine ⟨(i+1,n+cn),⟨by show i+1≤bs.length;omega,by show 0≤n+cn;omega,by show n+cn<2000;omega,fun c hc=>?_⟩,by show bs.length - (i+1)<bs.length - i;omega,by5,by4⟩
    rw [hts] at hc
    rcases List.mem_append.1 hc with q|q
    ·exact hP c q
    rw [List.mem_singleton] at q
    subst q
    exact ⟨(z3 by17).2,p2⟩
   refine QD ?_
   exact Ze U U (Xu _) (Xp _) U
  refine QD ?_
  exact Ze U U (Xu _) (Xp _) U
 refine QM ?_
 exact absurd g22 by18
theorem coreMore_own:ownKnob Tryz.prog.godebug=none:=by kernel_rfl
theorem coreMore_laidOut:laidOutB Tryz.prog=true:=by kernel_rfl
theorem coreMore_lifted (os:Os) (started:os.Started) (H:Type) (enc:TypeId × Value→H) (F0:Stop.Interp) :
    ReturnsInHanded {} Tryz.checked os 5 .any ((Rows.OpenSpec.upto Rows.coreMoreSpec).pre6 enc Tryz.prog Tryz.f5 Rows.coreMoreUptoRow.domain false) (((Rows.OpenSpec.upto Rows.coreMoreSpec).at F0).post enc Tryz.prog Tryz.f5 false true false false):=by
 refine returnsInHanded_of_cond_sized (C:=Tryz.checked) (s:=(Rows.OpenSpec.upto Rows.coreMoreSpec)) (k:=Rows.uptoSmall) U coreMore_own started (by kernel_rfl) Tryz.func5
  (upto_witness (enc:=enc) (C:=Tryz.checked) (s:=(Rows.OpenSpec.upto Rows.coreMoreSpec)) (k:=Rows.uptoSmall) rfl false ⟨#[],#[.string ⟨#[]⟩,.agg #[.slice none 0 0],.agg #[.string ⟨#[]⟩,.slice none 0 0,.int .i64 0,.string ⟨#[]⟩,.int .i64 0,.slice none 0 0,.int .i64 0,.string ⟨#[]⟩,.int .i64 0,.int .i64 0,.string ⟨#[]⟩,.int .i64 0,.slice none 0 0,.slice none 0 0,.slice none 0 0,.slice none 0 0,.slice none 0 0]],[]⟩ 8 (by kernel_rfl) (by kernel_rfl) (by kernel_rfl) (by kernel_rfl) (by kernel_rfl)) ?_
 intro W base args ds gs before hval0 hW hcnd hk hsz0 _
 have hval:∀ (j:Nat) t v,Tryz.f5.params[j]?=some t→args[j]?=some v→Value.okWide Tryz.prog W .any base t v:=hval0
 have hsz:(DataW.weightsEach Tryz.prog (Tryz.f5.params.toList++Rows.coreMoreSpec.plain.varTypes Tryz.prog) (ds++gs)).all (·≤reachBytes)=true:=hsz0
 have hW':=hW
 obtain ⟨p,q,hA0,hV,rfl,hfz,hnd⟩:=hW
 have hA:DataW.TrodAll enc Tryz.prog W 0 (fun _=>true) true Tryz.f5.params.toList args.toList ds p:=hA0
 rw [Tryz.params5] at hA hval hsz
 obtain ⟨rfl,rfl⟩:=trodVars_none hV
 obtain ⟨v0,v1,v2,d0,d1,d2,p0,p1,p2,rfl,rfl,rfl,h0,h1,h2⟩:=trodAll_three hA
 obtain ⟨f0,c0,s0,r0,o0,_⟩:=open_two closed22 hsz 0 rfl rfl by16 h0
 obtain ⟨f1,c1,s1,r1,o1,b1⟩:=open_two closed22 hsz 1 rfl rfl by16 h1
 obtain ⟨f2,c2,s2,r2,o2,b2⟩:=open_two closed22 hsz 2 rfl rfl by16 h2
 have hu:=upto_le (j:=1) hk rfl
 have hu2:=upto_le (j:=2) hk rfl
 obtain ⟨s,_,rfl⟩:=shapeL_str tu_9 s0
 obtain ⟨bs,rfl,hlim,_⟩:=shapeL_cprog by16 s1
 obtain ⟨b,rfl,hlb⟩:=shapeL_cb by16 s2
 simp only [bulks,AV.bulk] at b1
 have hag:∃ a,v1=.agg a:=by
  obtain ⟨a,h,_⟩:=okWide_struct Tryz.underlying36 (hval 1 36 v1 rfl rfl)
  exact ⟨a,h⟩
 refine (law_run (CoreMore_c s bs b hlim (by cases b;rw [Cb.Lim] at hlb;exact hlb.1) by17 by17) (.cons (rel_cell (okw_str Tryz.underlying9 (hval 0 9 v0 rfl rfl)) r0) (.cons (rel_agg hag r1 o1) (.cons (rel_agg' (by rw [Cb.cells_len];decide) r2 o2) .nil)))).mono fun e W' ⟨he,hb⟩=>?_
 subst he
 exact ⟨_,U,law_post (s:=Rows.coreMoreSpec) (tb:=4) coreMore_laidOut (by kernel_rfl) (by kernel_rfl) Tryz.underlying4 U U U U hW' hb⟩
theorem coreMore_holds:Rows.CoreMoreUptoSaid :=
 OpenClaim.holds_of_cond 5 Tryz.f5 rfl rfl rfl rfl rfl rfl rfl ⟨rfl,rfl,rfl,rfl,rfl⟩ rfl rfl rfl rfl rfl (by kernel_rfl) Tryz.func5 (by kernel_rfl)
  (of_decide_eq_true (by kernel_rfl)) (by unfold Func.isWrapper;first|(rw [if_pos (by decide +kernel)];kernel_rfl)|(rw [if_neg (by decide +kernel)];exact ⟨rfl,rfl⟩))
  (fun os started H enc _ F0=>coreMore_lifted os started H enc F0)
#print axioms coreMore_holds
end Go.Proofs.YteepjjgooplljaaGreat
