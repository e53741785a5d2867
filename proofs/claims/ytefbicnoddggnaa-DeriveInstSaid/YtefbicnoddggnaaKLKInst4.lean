/- Parts of a proof: derive: makers of expressions; the document's parser: bind, lambda; the document's parser: atom; the document's parser: atom, in brackets; the document's parser: operand; the document's parser: Exp; the document's parser: data; The logic of trees, part 20: regions whose order is drawn, and in which a new variable is made at no told place: it may be made at any time.; the document's parser: class; the document's parser: instance; derive: patterns, pairs, the order of arguments; derive: the order of arguments; Eq's alternatives of one constructor; derive: one constructor's alternatives of Eq, Ord and Show; derive: Show's alternatives; the alternatives of all constructors; derive.Inst; the document's Text and Letter; the document's text of an instance: its parts; the document's text of an instance; the document's text of an instance, whole; the document's pin: all places at one; how many tokens there are; the document's parser: begin, Prog; the document's pin, by its code; its parser of an expression; the document's instance -/
import Derived.Test.YtefbicnoddggnaaKLKInst3
set_option maxRecDepth 100000
set_option maxHeartbeats 4000000
namespace Go.Proofs.Ytefbicnoddggnaa
open Go.RowKit
def mkC (d:Da) (a:Int):List AV:=d.cells++[.val (.int .i64 a)]
def apE (a:Int):Ex→List Ex→Ex
 | x,[]=>x
 | x,y::l=>apE a (opE 5 [x,y] a) l
def lamE (a:Int):List ByteArray→Ex→Ex
 | [],b=>b
 | n::l,b=>.mk 6 n 0 ty0 [lamE a l b] [] [] a
theorem lamE_snoc (a:Int) (n:ByteArray) (b:Ex):∀ l:List ByteArray,lamE a (l++[n]) b=lamE a l (.mk 6 n 0 ty0 [b] [] [] a)
 | []=>rfl
 | m::l=>by show Ex.mk 6 m 0 ty0 [lamE a (l++[n]) b] [] [] a=_;rw [lamE_snoc a n b l];rfl
theorem num_len (i:Nat):(num i).size≤21:=txt_size _
theorem m_name_c (d:Da) (a:Int) (s:ByteArray):PCall Try.prog 26 [.agg (mkC d a),.val (.string s)] (.agg (namE 3 s a).cells):=by
 obtain ⟨ds,dps,dcs,ddv,dp⟩:=d
 unfold mkC
 simp only [Da.cells,List.cons_append,List.nil_append]
 refine Zc Try.func26 Y (by kernel_rfl) Y (Xb Y) ?_
 refine Qb7 ?_;intro b4
 refine Qq ?_
 refine Ql ?_
 refine Zb 8 Y Y Y (Zi (ns:=[0,1,7]) (xs:=[.const (.int .i64 3),.tmp 5,.tmp 7]) Y tz_47 Y tfl_47 Y Y Y Y ?_)
 refine Qb6 ?_
 exact Zl (i:=0) Y Y Y Ya Y by4 (Yr _) ⟨Y,Y⟩
theorem m_con_c (d:Da) (a:Int) (s:ByteArray):PCall Try.prog 27 [.agg (mkC d a),.val (.string s)] (.agg (namE 4 s a).cells):=by
 obtain ⟨ds,dps,dcs,ddv,dp⟩:=d
 unfold mkC
 simp only [Da.cells,List.cons_append,List.nil_append]
 refine Zc Try.func27 Y (by kernel_rfl) Y (Xb Y) ?_
 refine Qb7 ?_;intro b4
 refine Qq ?_
 refine Ql ?_
 refine Zb 8 Y Y Y (Zi (ns:=[0,1,7]) (xs:=[.const (.int .i64 4),.tmp 5,.tmp 7]) Y tz_47 Y tfl_47 Y Y Y Y ?_)
 refine Qb6 ?_
 exact Zl (i:=0) Y Y Y Ya Y by4 (Yr _) ⟨Y,Y⟩
theorem m_text_c (d:Da) (a:Int) (s:ByteArray):PCall Try.prog 30 [.agg (mkC d a),.val (.string s)] (.agg (namE 2 s a).cells):=by
 obtain ⟨ds,dps,dcs,ddv,dp⟩:=d
 unfold mkC
 simp only [Da.cells,List.cons_append,List.nil_append]
 refine Zc Try.func30 Y (by kernel_rfl) Y (Xb Y) ?_
 refine Qb7 ?_;intro b4
 refine Qq ?_
 refine Ql ?_
 refine Zb 8 Y Y Y (Zi (ns:=[0,1,7]) (xs:=[.const (.int .i64 2),.tmp 5,.tmp 7]) Y tz_47 Y tfl_47 Y Y Y Y ?_)
 refine Qb6 ?_
 exact Zl (i:=0) Y Y Y Ya Y by4 (Yr _) ⟨Y,Y⟩
theorem m_arg_c (of:ByteArray) (ho:of.size≤1000) (i:Nat) (hi:i≤1000000000):PCall Try.prog 32 [.val (.string of),.val (.int .i64 i)] (.val (.string (of++num i))):=by
 have H:=TextA_c ((i:Int)+1)
 have hz:=num_len i
 have e:txt (W63 ((i:Int)+1))=num i:=rfl
 rw [e] at H
 generalize num i=m at *
 refine Zc Try.func32 Y (by kernel_rfl) Y (Xb Y) ?_
 refine Qat ?_
 refine QO ?_
 refine Qax ?_
 refine Zb 8 Y Y Y (Zd (xs:=[.tmp 7]) Y Y (H) by3 ?_)
 refine QcP ?_
 refine Qu ?_
 exact Zg Y Y (Yv _) (Yr _) ⟨Y,Y⟩
theorem m_apply_c (d:Da) (a:Int) (f:ByteArray) (l:List Ex):PCall Try.prog 31 [.agg (mkC d a),.val (.string f),.seq 11 (Ex.cellss l)] (.agg (apE a (namE 3 f a) l).cells):=by
 have HN:=m_name_c d a f
 have hl:=Ex.cellss_len l
 obtain ⟨ds,dps,dcs,ddv,dp⟩:=d
 unfold mkC at *
 simp only [Da.cells,List.cons_append,List.nil_append] at *
 obtain ⟨r,hr⟩:∃ r,apE a (namE 3 f a) l=r:=⟨_,rfl⟩
 rw [hr]
 refine Zc Try.func31 Y (by kernel_rfl) Y (Xb Y) ?_
 refine Qb7 ?_;intro b6
 refine QG ?_
 refine Qcd ?_
 refine Qb ?_
 refine Zb 12 Y Y Y (Zd (xs:=[.tmp 10,.tmp 11]) Y Y (HN) by3 ?_)
 refine QH ?_;intro b7
 refine QS ?_
 refine Q2 ?_
 refine Qdv ?_;intro n14
 refine QbF ?_
 apply Yn (rg [(0,3),(4,2),(8,5),(15,11)]) (σ:=Nat × Ex) (fun zz=>match zz with|(i,x)=>[(15,.val (.int .i64 i))]) (fun zz=>match zz with|(i,x)=>[.loc b7 x.cells,.loc b6 zEx]) (fun zz=>match zz with|(i,x)=>i≤l.length∧apE a x (l.drop i)=r) (fun zz=>match zz with|(i,x)=>l.length - i) ((0,namE 3 f a))
 ·repeat' (first|exact Xe|apply Xc rfl|apply Xd rfl)
 ·exact ⟨Nat.zero_le _,hr⟩
 ·exact by6
 ·exact by5
 rintro ⟨i,⟨xk,xs,xn,⟨xtk,xts,xtn,xtl⟩,xks,xal,xbs,xp⟩⟩ hI
 try dsimp only [List.cons_append,List.nil_append] at hI ⊢
 obtain ⟨hi,hA⟩:=hI
 refine QbG ?_;intro c16 h16
 refine QL ?_
 obtain ⟨rfl,g16⟩|⟨rfl,g16⟩:=Za h16
 ·refine QN ?_
  rw [List.drop_of_length_le by16] at hA
  replace hA:Ex.mk xk xs xn ⟨xtk,xts,xtn,xtl⟩ xks xal xbs xp=r:=hA
  subst hA
  refine Qj ?_
  refine Qac ?_
  refine Qbp ?_
  refine Qo ?_
  exact Zl (i:=1) Y Y Y Ya Y by4 (Yr _) ⟨Y,Y⟩
 refine QI ?_
 obtain ⟨⟨qk,qs,qn,⟨qtk,qts,qtn,qtl⟩,qks,qal,qbs,qp⟩,hxq⟩:=Zn (l:=l) (i:=i) by9
 have hcq:=Ex.cellss_get hxq
 have hmq:=Xf hxq
 refine Qj ?_
 refine Zb 17 Y Y Y (Zo Y te_44 Y (.seq _ _) Y Y (hcq) ?_)
 refine Qa5 ?_
 refine QH ?_;intro b9
 refine QS ?_
 refine Qa ?_
 refine Qj ?_
 refine QcO ?_
 refine Qac ?_
 refine Zb 21 Y Y Y (Ze (xs:=[.tmp 19,.tmp 20]) Yp Y Y Y Y Y Y (Xb Y) ?_)
 refine Ql ?_
 refine Zb 24 Y Y Y (Zi (ns:=[0,4,7]) (xs:=[.const (.int .i64 5),.tmp 21,.tmp 23]) Y tz_47 Y tfl_47 Y Y Y Y ?_)
 refine Qbp ?_
 refine Q0 ?_
 refine Qa1 ?_
 rw [drop_at hxq] at hA
 exact ⟨(i+1,opE 5 [.mk xk xs xn ⟨xtk,xts,xtn,xtl⟩ xks xal xbs xp,.mk qk qs qn ⟨qtk,qts,qtn,qtl⟩ qks qal qbs qp] a),⟨by show i+1≤l.length;omega,hA⟩,by show l.length - (i+1)<l.length - i;omega,by6,by0⟩
theorem m_lambda_c (d:Da) (a:Int) (b:Ex) (l:List ByteArray):PCall Try.prog 10 [.agg (mkC d a),.agg b.cells,.seq 1 (strs l)] (.agg (lamE a l b).cells):=by
 have hl:=strs_len l
 obtain ⟨ds,dps,dcs,ddv,dp⟩:=d
 unfold mkC at *
 simp only [Da.cells,List.cons_append,List.nil_append] at *
 obtain ⟨r,hr⟩:∃ r,lamE a l b=r:=⟨_,rfl⟩
 rw [hr]
 obtain ⟨bk,bs,bn,⟨btk,bts,btn,btl⟩,bks,bal,bbs,bp⟩:=b
 refine Zc Try.func10 Y (by kernel_rfl) Y (Xb Y) ?_
 refine Qan ?_
 refine c_lens (t:=2) Y (.seq _ _) (fun hmax=>?_)
 refine Qn ?_
 refine Qco ?_
 refine Zb 4 Y Y Y (op_boxe (cs':=[_,_,_,_,_,_,_,_,_,_,_]) Y Y Y Y ?_);intro b4
 refine QH ?_;intro b6
 refine Q2 ?_
 refine Qcs ?_;intro n9
 refine QT ?_
 refine Qbj ?_
 apply Yn (rg [(0,2),(5,1),(7,17)]) (σ:=Nat × Ex) (fun zz=>match zz with|(i,x)=>[(7,.val (.int .i64 ((i:Int) - 1)))]) (fun zz=>match zz with|(i,x)=>[.loc b6 zEx,.loc b4 x.cells]) (fun zz=>match zz with|(i,x)=>i≤l.length∧lamE a (l.take i) x=r) (fun zz=>match zz with|(i,x)=>i) ((l.length,⟨bk,bs,bn,⟨btk,bts,btn,btl⟩,bks,bal,bbs,bp⟩))
 ·repeat' (first|exact Xe|apply Xc rfl|apply Xd rfl)
 ·exact ⟨Nat.le_refl _,by rw [List.take_length];exact hr⟩
 ·exact Yy Y (Le.ieq by16) by6
 ·exact by5
 rintro ⟨i,⟨xk,xs,xn,⟨xtk,xts,xtn,xtl⟩,xks,xal,xbs,xp⟩⟩ hI
 try dsimp only [List.cons_append,List.nil_append] at hI ⊢
 obtain ⟨hi,hA⟩:=hI
 refine QU ?_
 refine Qcn ?_;intro c12 h12
 refine Qa ?_
 obtain ⟨rfl,g12⟩|⟨rfl,g12⟩:=Za h12
 ·refine QN ?_
  obtain rfl:i=0:=by omega
  rw [List.take_zero] at hA
  replace hA:Ex.mk xk xs xn ⟨xtk,xts,xtn,xtl⟩ xks xal xbs xp=r:=hA
  subst hA
  refine Qj ?_
  refine QcO ?_
  refine Qb6 ?_
  exact Zl (i:=0) Y Y Y Ya Y by4 (Yr _) ⟨Y,Y⟩
 refine Qaf ?_
 obtain ⟨i,rfl⟩:∃ j,i=j+1:=⟨i - 1,by omega⟩
 rw [show (((i+1:Nat):Int) - 1)=(i:Int) by omega]
 obtain ⟨q,hq⟩:=Zn (l:=l) (i:=i) by16
 have hcq:=strs_get hq
 rw [Yk hq,lamE_snoc] at hA
 refine Yc [0,1,2,3,4,5,6,7,8,9] [9] [[],[],[0,1],[0,1,2],[],[4],[],[6],[0,1,2,3,4,5,6,7],[0,1,2,3,4,5,6,7,8]] tmix Y ?_
 refine Qr ?_
 refine Qr ?_
 refine Zf 17 (none) (i:=2) Y Y Y Y Y (Zo Y te_22 Y (.seq _ _) Y Y (hcq) ⟨Y,Y⟩) ?_
 refine Zf 18 (none) (i:=3) Y Y Y Y Y (op_load_c1 Y ta_9 Y Y ⟨Y,Y⟩) ?_
 refine Zf 19 (some 1) (i:=4) Y Y Y Y Y (Zx (cs':=[_,_,_,_,_,_,_,_,_,_,_]) (i:=0) Y Ya Y Y Y Y ⟨Y,Y⟩) ?_
 refine Zf 20 (none) (i:=5) Y Y Y Y Y (Ze (xs:=[.tmp 19]) Yp Y Y Y Y Y Y (Xb Y) ⟨Y,Y⟩) ?_
 refine Qa2 ?_
 refine Zf 23 (none) (i:=8) Y Y Y Y Y (Zi (ns:=[0,1,4,7]) (xs:=[.const (.int .i64 6),.tmp 18,.tmp 20,.tmp 22]) Y tz_47 Y tfl_47 Y Y Y Y ⟨Y,Y⟩) ?_
 refine Zz 1 (i:=9) Y Y Y Y Y (Zm (cs':=[_,_,_,_,_,_,_,_,_,_,_]) (i:=0) Y ts_47 Y Y Y Y Y (Xb Y) Y ⟨_,Y,?_⟩)
 show AGo _ _ _ _ _ _ _
 refine QaU ?_
 refine Qg ?_
 refine QT ?_
 refine Qaj ?_
 exact ⟨(i,.mk 6 q 0 ty0 [.mk xk xs xn ⟨xtk,xts,xtn,xtl⟩ xks xal xbs xp] [] [] a),⟨by omega,hA⟩,by show i<i+1;omega,by6,by0⟩
theorem m_cases_c (d:Da) (a:Int) (x:Ex) (l:List Al):PCall Try.prog 25 [.agg (mkC d a),.agg x.cells,.seq 16 (Al.cellss l)] (.agg (Ex.mk 8 kE 0 ty0 [x] l [] a).cells):=by
 obtain ⟨ds,dps,dcs,ddv,dp⟩:=d
 unfold mkC at *
 simp only [Da.cells,List.cons_append,List.nil_append] at *
 obtain ⟨xk,xs,xn,⟨xtk,xts,xtn,xtl⟩,xks,xal,xbs,xp⟩:=x
 refine Zc Try.func25 Y (by kernel_rfl) Y (Xb Y) ?_
 refine Qv ?_
 refine Qco ?_
 refine QcF ?_
 refine QH ?_;intro b6
 refine QG ?_
 refine Qa5 ?_
 refine Zb 8 Y Y Y (Ze (xs:=[.tmp 7]) Yp Y Y Y Y Y Y (Xb Y) ?_)
 refine Qb ?_
 refine Ql ?_
 refine Zb 12 Y Y Y (Zi (ns:=[0,4,5,7]) (xs:=[.const (.int .i64 8),.tmp 8,.tmp 9,.tmp 11]) Y tz_47 Y tfl_47 Y Y Y Y ?_)
 refine Qb6 ?_
 exact Zl (i:=0) Y Y Y Ya Y by4 (Yr _) ⟨Y,Y⟩
def ExC (b:Nat) (L:List Tok) (n:Nat) (E:PS→Ex × PS):Prop:=∀ q,POk L n q→MCall Try.prog 38 [.ptr b 0] (.loc b (psC L q)) (.agg (E q).1.cells) (.loc b (psC L (E q).2))
theorem take_prog {L:List Tok} {p:PS} {kind:Int} {s:ByteArray} (hk:kind≠0) (h:(takeP L p kind s).2.e=0):takeP L p kind s=(nxt L p,stepP p)∧p.e=0∧p.at_<L.length:=by
 unfold takeP at h ⊢
 by_cases q:p.e≠0
 ·rw [if_pos q] at h;exact absurd h q
 rw [if_neg q] at h ⊢
 by_cases q2:(kind<6∧(nxt L p).k≠kind)∨(6≤kind∧((nxt L p).k<6∨(nxt L p).t≠s))
 ·rw [if_pos q2] at h;exact absurd h (fail_ne by15)
 rw [if_neg q2];exact ⟨rfl,nxt_in by16⟩
theorem nxt_ok {L:List Tok} {p:PS} (h:(nxt L p).k≠0):p.e=0:=(nxt_in h).1
theorem bind_c (b:Nat) (L:List Tok) (hL:L.length≤100000) (n:Nat) (E:PS→Ex × PS) (HE:ExC b L n E) (p:PS) (k:POk L n p):MCall Try.prog 73 [.ptr b 0] (.loc b (psC L p)) (.agg (bindG L E p).1.cells) (.loc b (psC L (bindG L E p).2)):=by
 have H1:=pName_c b L hL n p k
 have k1:=(name_adv k).ok k
 have H2:=take_c b L hL _ k1.1 7 kEq
 have k2:=(Zp (kind:=7) (s:=kEq) by15 k1).ok k1
 have H3:=HE _ k2
 obtain ⟨r,hr⟩:∃ r,bindG L E p=r:=⟨_,rfl⟩
 rw [hr]
 unfold bindG at hr
 obtain ⟨⟨⟨tk,tt,tn,ta⟩,p1⟩,e1⟩:∃ r,nameP L p=r:=⟨_,rfl⟩
 rw [e1] at H1 H2 H3 hr
 obtain ⟨⟨u2,p2⟩,e2⟩:∃ r,takeP L p1 7 kEq=r:=⟨_,rfl⟩
 simp only [] at H2 H3 hr
 rw [e2] at H2 H3 hr
 simp only [] at H2 H3 hr
 obtain ⟨⟨⟨xk,xs,xn,⟨xtk,xts,xtn,xtl⟩,xks,xal,xbs,xp⟩,p3⟩,e3⟩:∃ r,E p2=r:=⟨_,rfl⟩
 rw [e3] at H3 hr
 simp only [Ex.cells,Ty.cells,List.cons_append,List.nil_append,Tok.av] at H1 H3 hr
 subst hr
 refine Zc Try.func73 Y (by kernel_rfl) Y (Xb Y) ?_
 refine Qv ?_
 refine Qed ?_;intro b2
 refine Qq ?_
 refine Zb 5 Y Y Y (Zh (xs:=[.tmp 4]) (i:=1) Y Y Y (H1) by3 ?_)
 refine QB ?_;intro b3
 refine Qai ?_
 refine Qq ?_
 refine Zb 7 Y Y Y (Zh (xs:=[.tmp 6,.const (.int .i64 7),.const (.string ⟨#[61]⟩)]) (i:=2) Y Y Y (H2) by3 ?_)
 refine QL ?_
 refine Yc [0,1,2,4,5,3,6,7] [3,7] [[],[0],[],[2],[],[4],[0,1,2,3,4,5],[0,1,2,3,4,5,6]] tmix Y ?_
 refine Qb2 ?_
 refine QR ?_
 refine QcU ?_
 refine Zz 2 (i:=3) Y Y Y Y Y (Zh (xs:=[.tmp 10]) (i:=0) Y Y Y (H3) by3 ⟨_,Y,?_⟩)
 refine Zf 14 (none) (i:=6) Y Y Y Y Y (Zi (ns:=[0,1,2]) (xs:=[.tmp 9,.tmp 11,.tmp 13]) Y tz_49 Y tfl_49 Y Y Y Y ⟨Y,Y⟩) ?_
 refine Zz 1 (i:=7) Y Y Y Y Y (Zm (cs':=[_,_,_,_,_,_,_,_,_,_,_,_,_]) (i:=0) Y ts_49 Y Y Y Y Y (Xb Y) Y ⟨_,Y,?_⟩)
 show AGo _ _ _ _ _ _ _
 refine QV ?_
 exact Zl (i:=1) Y Y Y ta_49 Y (Yv _) (Yt _ (Yt _ (Yu Y))) ⟨Y,Y⟩
theorem lambda_c (b:Nat) (L:List Tok) (hL:L.length≤100000) (n:Nat) (E:PS→Ex × PS) (HE:ExC b L n E):∀ (f:Nat) (p:PS) (a:Int),POk L n p→L.length - p.at_<f→MCall Try.prog 72 [.ptr b 0,.val (.int .i64 a)] (.loc b (psC L p)) (.agg (lambdaG L E f p a).1.cells) (.loc b (psC L (lambdaG L E f p a).2))
 | 0,p,a,k,h=>by omega
 | f+1,p,a,k,h=>by
  have H1:=take_c b L hL _ k.1 1 kE
  have k1:=(Zp (kind:=1) (s:=kE) by15 k).ok k
  have hp1:=take_prog (L:=L) (p:=p) (kind:=1) (s:=kE) by15
  obtain ⟨r,hr⟩:∃ r,lambdaG L E (f+1) p a=r:=⟨_,rfl⟩
  rw [hr]
  rw [lambdaG] at hr
  obtain ⟨⟨⟨tk,tt,tn,ta⟩,p1⟩,e1⟩:∃ r,takeP L p 1 kE=r:=⟨_,rfl⟩
  rw [e1] at H1 k1 hr hp1
  simp only [Tok.av] at H1 k1 hr hp1
  have HN:=next_c b L p1
  obtain ⟨⟨qk,qt,qn,qa⟩,e4⟩:∃ r,nxt L p1=r:=⟨_,rfl⟩
  have hn1:=nxt_ok (L:=L) (p:=p1)
  rw [e4] at HN hr hn1
  simp only [Tok.av] at HN hr hn1
  have H2:=take_c b L hL p1 k1.1 7 kArrow
  have k2:=(Zp (kind:=7) (s:=kArrow) by15 k1).ok k1
  have H3:=HE _ k2
  have IH:qk=1→MCall Try.prog 72 [.ptr b 0,.val (.int .i64 qa)] (.loc b (psC L p1)) (.agg (lambdaG L E f p1 qa).1.cells) (.loc b (psC L (lambdaG L E f p1 qa).2)):=fun q=>by
   have h1:=hp1 (hn1 by16)
   have h2:p1=stepP p:=by have:=h1.1;simp only [Prod.mk.injEq] at this;exact this.2
   refine lambda_c b L hL n E HE f p1 qa k1 ?_
   have h3:=h1.2.2
   rw [h2]
   show L.length - (p.at_+1)<f
   omega
  obtain ⟨⟨⟨yk,ys,yn,⟨ytk,yts,ytn,ytl⟩,yks,yal,ybs,yp⟩,p4⟩,e5⟩:∃ r,lambdaG L E f p1 qa=r:=⟨_,rfl⟩
  rw [e5] at IH hr
  obtain ⟨⟨⟨xk,xs,xn,⟨xtk,xts,xtn,xtl⟩,xks,xal,xbs,xp⟩,p3⟩,e3⟩:∃ r,E (takeP L p1 7 kArrow).2=r:=⟨_,rfl⟩
  rw [e3] at H3 hr
  simp only [Ex.cells,Ty.cells,List.cons_append,List.nil_append] at IH H3 hr
  clear hp1 hn1
  refine Zc Try.func72 Y (by kernel_rfl) Y (Xb Y) ?_
  refine Qa0 ?_;intro b4
  refine Qq ?_
  refine Zb 8 Y Y Y (Zh (xs:=[.tmp 7,.const (.int .i64 1),.const (.string ⟨#[]⟩)]) (i:=1) Y Y Y (H1) by3 ?_)
  refine QB ?_;intro b5
  refine Qai ?_
  refine QbE ?_
  refine Qb ?_
  refine Zb 12 Y Y Y (Zi (ns:=[0,1,7]) (xs:=[.const (.int .i64 6),.tmp 10,.tmp 11]) Y tz_47 Y tfl_47 Y Y Y Y ?_)
  refine QH ?_;intro b6
  refine QS ?_
  refine Q2 ?_
  refine Zb 14 Y Y Y (Yf (xs:=[.tmp 13]) [3] Y Y Y (HN) by3 ?_)
  refine QcM ?_
  refine Qi ?_;intro c16 h16
  refine Qa ?_
  obtain ⟨rfl,g16⟩|⟨rfl,g16⟩:=Za h16
  ·refine Q3 ?_
   refine Zb 29 Y Y Y (Zh (xs:=[.tmp 28,.const (.int .i64 7),.const (.string ⟨#[45,62]⟩)]) (i:=3) Y Y Y (H2) by3 ?_)
   refine QL ?_
   refine Qcx ?_
   refine Qb2 ?_
   refine Zz 3 (i:=3) Y Y Y Y Y (Zh (xs:=[.tmp 32]) (i:=0) Y Y Y (H3) by3 ⟨_,Y,?_⟩)
   refine Zf 34 (none) (i:=4) Y Y Y Y Y (Ze (xs:=[.tmp 33]) Yp Y Y Y Y Y Y (Xb Y) ⟨Y,Y⟩) ?_
   refine EOps.nw (i:=5) Y Y Y (op_append_nil Yp Y Y Y (.seq _ _) by8 (fun u35=>⟨_,Y,?_⟩))
   refine QR ?_
   refine Qc3 ?_
   show AGo _ _ _ _ _ _ _
   refine Qe ?_
   refine Qn ?_
   refine Qac ?_
   refine QbK ?_
   refine Qo ?_
   rw [if_neg g16] at hr;subst hr;exact Zl (i:=2) rfl rfl rfl Ya rfl by2 (Yt _ (Yt _ (Yt _ (Ys _ (Yr _))))) ⟨rfl,rfl⟩
  refine Qbd ?_
  refine Yc [0,1,2,3,4,5,6,7,8,9,10] [6,8,10] [[],[0],[],[],[3],[3,4],[2,3,4,5],[2,3,4,5,6],[0,1,2,3,4,5,6,7],[0,1,2,3,4,5,6,7,8],[0,1,2,3,4,5,6,7,8,9]] tmix Y ?_
  refine Qb2 ?_
  refine Qr ?_
  refine Zf 21 (some 3) (i:=4) Y Y Y Y Y (Yf (xs:=[.tmp 20]) [0] Y Y Y (HN) by3 ⟨Y,Y⟩) ?_
  refine Zf 22 (none) (i:=5) Y Y Y Y Y (op_field1 (ft:=3) (fo:=3) Y (by kernel_rfl) ta_3 Y Y ⟨Y,Y⟩) ?_
  refine Zz 3 (i:=6) Y Y Y Y Y (Zh (xs:=[.tmp 19,.tmp 22]) (i:=0) Y Y Y (IH g16) by3 ⟨_,Y,?_⟩)
  refine Zf 24 (none) (i:=7) Y Y Y Y Y (Ze (xs:=[.tmp 23]) Yp Y Y Y Y Y Y (Xb Y) ⟨Y,Y⟩) ?_
  refine EOps.nw (i:=8) Y Y Y (op_append_nil Yp Y Y Y (.seq _ _) by8 (fun u25=>⟨_,Y,?_⟩))
  refine QR ?_
  refine Qc3 ?_
  show AGo _ _ _ _ _ _ _
  refine Qe ?_
  refine Qn ?_
  refine Qac ?_
  refine QbK ?_
  refine Qo ?_
  rw [if_pos g16] at hr;subst hr;exact Zl (i:=2) rfl rfl rfl Ya rfl by2 (Yt _ (Yt _ (Yt _ (Ys _ (Yr _))))) ⟨rfl,rfl⟩
theorem atom_lit (b:Nat) (L:List Tok) (hL:L.length≤100000) (n:Nat) (E:PS→Ex × PS) (p:PS) (k:POk L n p) (h:(nxt L p).k=1∨(nxt L p).k=2∨(nxt L p).k=3∨(nxt L p).k=4):MCall Try.prog 74 [.ptr b 0] (.loc b (psC L p)) (.agg (atomG L E p).1.cells) (.loc b (psC L (atomG L E p).2)):=by
 have HN:=next_c b L p
 have hp:=k.1
 have hlt:p.at_<L.length:=(nxt_in by16).2
 obtain ⟨r,hr⟩:∃ r,atomG L E p=r:=⟨_,rfl⟩
 rw [hr]
 unfold atomG at hr
 obtain ⟨⟨tk,tt,tn,ta⟩,ht⟩:∃ t,nxt L p=t:=⟨_,rfl⟩
 rw [ht] at HN hr h
 simp only [Tok.av] at HN hr h
 refine QdF ?_
 refine Qa0 ?_;intro b2
 refine Qq ?_
 refine Zb 10 Y Y Y (Yf (xs:=[.tmp 9]) [1] Y Y Y (HN) by3 ?_)
 refine QB ?_;intro b3
 refine Qai ?_
 refine QbE ?_
 refine QdG ?_
 refine QH ?_;intro b4
 refine QS ?_
 refine QL ?_
 apply c_joink (rg [(1,1),(9,37),(68,1),(81,1),(94,1),(97,1),(110,1),(128,1)]) (σ:=Int × ByteArray × Int) (fun zz=>match zz with|(kk,ss,nn)=>[]) (fun zz=>match zz with|(kk,ss,nn)=>[.loc b4 [.val (.int .i64 kk),.val (.string ss),.val (.int .i64 nn),.val (.int .i64 0),.val (.string kE),.val (.int .i64 0),.val (.slice none 0 0),.val (.slice none 0 0),.val (.slice none 0 0),.val (.slice none 0 0),.val (.int .i64 ta)],.loc b3 (Tok.mk tk tt tn ta).av,.loc b2 zEx,.loc b (psC L p)]) (fun zz=>match zz with|(kk,ss,nn)=>0<kk∧(Ex.mk kk ss nn ty0 [] [] [] ta,stepP p)=r)
 ·repeat' (first|exact Xe|apply Xc rfl|apply Xd rfl)
 ·skip
  refine Qa3 ?_
  refine QaV ?_
  refine Qi ?_;intro c17 h17
  refine Qd ?_
  obtain ⟨rfl,g17⟩|⟨rfl,g17⟩:=Za h17
  ·refine Qbk ?_;intro c25 h25
   refine Qd ?_
   obtain ⟨rfl,g25⟩|⟨rfl,g25⟩:=Za h25
   ·refine Qbk ?_;intro c33 h33
    refine Qd ?_
    obtain ⟨rfl,g33⟩|⟨rfl,g33⟩:=Za h33
    ·refine Qbk ?_;intro c41 h41
     refine Qd ?_
     obtain ⟨rfl,g41⟩|⟨rfl,g41⟩:=Za h41
     ·omega
     refine Qb3 ?_
     refine Qc4 ?_
     refine Qb4 ?_
     refine Qx ?_
     refine QdH ?_
     refine Q0 ?_
     refine Qak ?_
     first
     |(rw [if_pos g17] at hr;exact ⟨(3,tt,0),⟨by decide,hr⟩,by6,Yu rfl⟩)
     |(rw [if_neg g17,if_pos g25] at hr;exact ⟨(4,tt,0),⟨by decide,hr⟩,by6,Yu rfl⟩)
     |(rw [if_neg g17,if_neg g25,if_pos g33] at hr;exact ⟨(1,kE,tn),⟨by decide,hr⟩,by6,Yu rfl⟩)
     |(rw [if_neg g17,if_neg g25,if_neg g33,if_pos g41] at hr;exact ⟨(2,tt,0),⟨by decide,hr⟩,by6,Yu rfl⟩)
    refine Qb3 ?_
    refine Qc4 ?_
    refine Qb4 ?_
    refine Qx ?_
    refine Qee ?_
    refine Q0 ?_
    refine Qak ?_
    first
    |(rw [if_pos g17] at hr;exact ⟨(3,tt,0),⟨by decide,hr⟩,by6,Yu rfl⟩)
    |(rw [if_neg g17,if_pos g25] at hr;exact ⟨(4,tt,0),⟨by decide,hr⟩,by6,Yu rfl⟩)
    |(rw [if_neg g17,if_neg g25,if_pos g33] at hr;exact ⟨(1,kE,tn),⟨by decide,hr⟩,by6,Yu rfl⟩)
    |(rw [if_neg g17,if_neg g25,if_neg g33,if_pos g41] at hr;exact ⟨(2,tt,0),⟨by decide,hr⟩,by6,Yu rfl⟩)
   refine Qb3 ?_
   refine Qc4 ?_
   refine Qb4 ?_
   refine Qx ?_
   refine QdH ?_
   refine Q0 ?_
   refine Qak ?_
   first
   |(rw [if_pos g17] at hr;exact ⟨(3,tt,0),⟨by decide,hr⟩,by6,Yu rfl⟩)
   |(rw [if_neg g17,if_pos g25] at hr;exact ⟨(4,tt,0),⟨by decide,hr⟩,by6,Yu rfl⟩)
   |(rw [if_neg g17,if_neg g25,if_pos g33] at hr;exact ⟨(1,kE,tn),⟨by decide,hr⟩,by6,Yu rfl⟩)
   |(rw [if_neg g17,if_neg g25,if_neg g33,if_pos g41] at hr;exact ⟨(2,tt,0),⟨by decide,hr⟩,by6,Yu rfl⟩)
  refine Qb3 ?_
  refine Qc4 ?_
  refine Qb4 ?_
  refine Qx ?_
  refine QdH ?_
  refine Q0 ?_
  refine Qak ?_
  first
  |(rw [if_pos g17] at hr;exact ⟨(3,tt,0),⟨by decide,hr⟩,by6,Yu rfl⟩)
  |(rw [if_neg g17,if_pos g25] at hr;exact ⟨(4,tt,0),⟨by decide,hr⟩,by6,Yu rfl⟩)
  |(rw [if_neg g17,if_neg g25,if_pos g33] at hr;exact ⟨(1,kE,tn),⟨by decide,hr⟩,by6,Yu rfl⟩)
  |(rw [if_neg g17,if_neg g25,if_neg g33,if_pos g41] at hr;exact ⟨(2,tt,0),⟨by decide,hr⟩,by6,Yu rfl⟩)
 rintro ⟨kk,ss,nn⟩ hI
 try dsimp only [List.cons_append,List.nil_append] at hI ⊢
 refine QaP ?_
 refine Qag ?_
 refine Q8 ?_;intro c48 h48
 refine Qa ?_
 obtain ⟨rfl,g48⟩|⟨rfl,g48⟩:=Za h48
 ·omega
 refine QaH ?_
 refine QA ?_
 refine Qcw ?_
 refine Qb1 ?_
 refine QcN ?_
 refine QG ?_
 refine Qac ?_
 refine QbK ?_
 refine Qo ?_
 have h2:=hI.2;subst h2;exact Zl (i:=2) rfl rfl rfl Ya rfl by2 (Yt _ (Yt _ (Yt _ (Yu rfl)))) ⟨rfl,rfl⟩
theorem may_yes {b:Nat} {L:List Tok} (hL:L.length≤100000) {p:PS} {s:ByteArray} (h:isP L p s=true):MCall Try.prog 71 [.ptr b 0,.val (.string s)] (.loc b (psC L p)) (.val (.bool true)) (.loc b (psC L (stepP p))) :=
 (may_c b L hL p s).mono (by
  rintro v M' (⟨_,rfl,rfl⟩|⟨q,_,_⟩)
  ·exact ⟨Y,Y⟩
  exact absurd h q)
theorem may_no {b:Nat} {L:List Tok} (hL:L.length≤100000) {p:PS} {s:ByteArray} (h:¬ isP L p s=true):MCall Try.prog 71 [.ptr b 0,.val (.string s)] (.loc b (psC L p)) (.val (.bool false)) (.loc b (psC L p)) :=
 (may_c b L hL p s).mono (by
  rintro v M' (⟨q,_,_⟩|⟨_,rfl,rfl⟩)
  ·exact absurd q h
  exact ⟨Y,Y⟩)
theorem altsL_err {L:List Tok} {E:PS→Ex × PS} {f:Nat} {p:PS} {acc:List Al} (h:p.e≠0):altsL L E f p acc=(acc,p):=by
 cases f with
 | zero=>rfl
 | succ f=>rw [altsL,if_pos h]
theorem Al.cellss_app' (a b:List Al):Al.cellss (a++b)=Al.cellss a++Al.cellss b:=by simp [Al.cellss_map]
theorem Ex.cellss_app' (a b:List Ex):Ex.cellss (a++b)=Ex.cellss a++Ex.cellss b:=by simp [Ex.cellss_map]
theorem Bi.cellss_app' (a b:List Bi):Bi.cellss (a++b)=Bi.cellss a++Bi.cellss b:=by simp [Bi.cellss_map]
theorem atom_case (b:Nat) (L:List Tok) (hL:L.length≤100000) (n:Nat) (E:PS→Ex × PS) (HE:ExC b L n E) (HA:∀ q,POk L n q→Adv L q (E q).2) (p:PS) (k:POk L n p) (h1:(nxt L p).k≠1) (h2:(nxt L p).k≠2) (h3:(nxt L p).k≠3) (h4:(nxt L p).k≠4) (hc:isP L p kCase=true):MCall Try.prog 74 [.ptr b 0] (.loc b (psC L p)) (.agg (caseG L E (nxt L p).a (stepP p)).1.cells) (.loc b (psC L (caseG L E (nxt L p).a (stepP p)).2)):=by
 have HN:=next_c b L p
 have k1:=(Yh k hc).ok k
 have H1:=HE _ k1
 have k2:=(HA _ k1).ok k1
 have H2:=take_c b L hL _ k2.1 6 kOf
 have k3:=(Zp (kind:=6) (s:=kOf) by15 k2).ok k2
 have k4:=(altsL_adv HA (L.length+1) _ [] k3).ok k3
 have H4:=take_c b L hL _ k4.1 6 kEnd
 obtain ⟨r,hr⟩:∃ r,caseG L E (nxt L p).a (stepP p)=r:=⟨_,rfl⟩
 rw [hr]
 unfold caseG at hr
 simp only [] at hr
 obtain ⟨⟨tk,tt,tn,ta⟩,ht⟩:∃ t,nxt L p=t:=⟨_,rfl⟩
 rw [ht] at HN hr h1 h2 h3 h4
 simp only [Tok.av] at HN hr h1 h2 h3 h4
 obtain ⟨⟨⟨xk,xs,xn,⟨xtk,xts,xtn,xtl⟩,xks,xal,xbs,xp⟩,p2⟩,e2⟩:∃ r,E (stepP p)=r:=⟨_,rfl⟩
 rw [e2] at H1 H2 H4 hr k3
 obtain ⟨⟨u3,p3⟩,e3⟩:∃ r,takeP L p2 6 kOf=r:=⟨_,rfl⟩
 simp only [] at H2 H4 hr k3
 rw [e3] at H2 H4 hr k3
 simp only [] at H2 H4 hr k3
 obtain ⟨⟨yl,p4⟩,e4⟩:∃ r,altsL L E (L.length+1) p3 []=r:=⟨_,rfl⟩
 rw [e4] at H4 hr
 simp only [Ex.cells,Ty.cells,List.cons_append,List.nil_append] at H1 H4 hr
 refine QdF ?_
 refine Qa0 ?_;intro b2
 refine Qq ?_
 refine Zb 10 Y Y Y (Yf (xs:=[.tmp 9]) [1] Y Y Y (HN) by3 ?_)
 refine QB ?_;intro b3
 refine Qai ?_
 refine QbE ?_
 refine QdG ?_
 refine QH ?_;intro b4
 refine QS ?_
 refine Qb5 ?_
 refine QaV ?_
 refine Qi ?_;intro c17 h17
 refine Qd ?_
 obtain ⟨rfl,g17⟩|⟨rfl,g17⟩:=Za h17
 ·refine Qbk ?_;intro c25 h25
  refine Qd ?_
  obtain ⟨rfl,g25⟩|⟨rfl,g25⟩:=Za h25
  ·refine Qbk ?_;intro c33 h33
   refine Qd ?_
   obtain ⟨rfl,g33⟩|⟨rfl,g33⟩:=Za h33
   ·refine Qbk ?_;intro c41 h41
    refine Qd ?_
    obtain ⟨rfl,g41⟩|⟨rfl,g41⟩:=Za h41
    ·refine QaD ?_
     refine QaU ?_
     refine QE ?_
     refine Qag ?_
     refine Q8 ?_;intro c48 h48
     refine Qa ?_
     obtain ⟨rfl,g48⟩|⟨rfl,g48⟩:=Za h48
     ·refine Qav ?_
      refine Zb 58 Y Y Y (Zh (xs:=[.tmp 57,.const (.string ⟨#[99,97,115,101]⟩)]) (i:=3) Y Y Y (may_yes hL hc) by3 ?_)
      refine Qa ?_
      refine Qb3 ?_
      refine Qc4 ?_
      refine QL ?_
      refine Qcx ?_
      refine Qb2 ?_
      refine Zz 3 (i:=3) Y Y Y Y Y (Zh (xs:=[.tmp 62]) (i:=0) Y Y Y (H1) by3 ⟨_,Y,?_⟩)
      refine Zf 64 (none) (i:=4) Y Y Y Y Y (Ze (xs:=[.tmp 63]) Yp Y Y Y Y Y Y (Xb Y) ⟨Y,Y⟩) ?_
      refine EOps.nw (i:=5) Y Y Y (op_append_nil Yp Y Y Y (.seq _ _) by8 (fun u65=>⟨_,Y,?_⟩))
      refine QR ?_
      refine Qc3 ?_
      show AGo _ _ _ _ _ _ _
      refine Qe ?_
      refine Qs ?_
      refine Zb 68 Y Y Y (Zh (xs:=[.tmp 67,.const (.int .i64 6),.const (.string ⟨#[111,102]⟩)]) (i:=3) Y Y Y (H2) by3 ?_)
      refine Qa ?_
      refine QC ?_
      refine Qa7 ?_
      refine c_ownNew 54 16 ?_
      apply Yn (rg [(1,1),(5,2),(9,38),(48,45),(94,1),(97,1),(110,1),(128,1)]) (σ:=PS × Nat × List Al × Value × Bool) (fun zz=>match zz with|(q,f,acc,u,mo)=>[(5,.val (.bool mo))]) (fun zz=>match zz with|(q,f,acc,u,mo)=>[.loc b4 [.val (.int .i64 8),.val (.string kE),.val (.int .i64 0),.val (.int .i64 0),.val (.string kE),.val (.int .i64 0),.val (.slice none 0 0),.seq 11 (Ex.cellss [Ex.mk xk xs xn (Ty.mk xtk xts xtn xtl) xks xal xbs xp]),.own u 16 (Al.cellss acc),.val (.slice none 0 0),.val (.int .i64 ta)],.loc b3 (Tok.mk tk tt tn ta).av,.loc b2 zEx,.loc b (psC L q),.own 54 16 u]) (fun zz=>match zz with|(q,f,acc,u,mo)=>POk L n q∧L.length - q.at_<f∧(mo=true→acc.length≤q.at_)∧(if mo=true then altsL L E f q acc else (acc,q))=(yl,p4)) (fun zz=>match zz with|(q,f,acc,u,mo)=>2 * f+(if mo=true then 1 else 0)) ((p3,L.length+1,[],.slice none 0 0,true))
      ·repeat' (first|exact Xe|apply Xc rfl|apply Xd rfl)
      ·exact ⟨k3,by omega,fun _=>Nat.zero_le _,e4⟩
      ·exact by6
      ·exact (MLe.loc _ (Yx (Yv _) (Yx (Yv _) (Yx (Yv _) (Yx (Yv _) (Yx (Yv _) (Yx (Yv _) (Yx (Yv _) (Yx (Le.own_seq Y) (Yx (Le.nilOwn 16) (Yw _)))))))))) (Ys _ (Ys _ (Ys _ (Yt _ (MLe.refl _))))))
      rintro ⟨q,f,acc,u,mo⟩ hI
      try dsimp only [List.cons_append,List.nil_append] at hI ⊢
      obtain ⟨i1,i2,i3,hu⟩:=hI
      have hq1:=i1.1
      refine QK ?_
      refine Zt 76 (mo=true∧q.e=0) ?_ _ _ Y ?_
      ·skip
       refine QaF ?_
       have h70:(mo=true↔mo=true):=Iff.rfl
       obtain ⟨rfl,g70⟩|⟨rfl,g70⟩:=Za h70
       ·skip
        refine Qbi ?_
        refine Qf ?_
        refine Yz Y ?_ by7 by5
        simp_all;done
       skip
       refine Qc ?_
       refine Zk 72 Y Y Y Y Y (op_nilCheck_m Y Y ?_)
       refine QcC ?_
       refine Zk 74 Y Y Y Y Y (op_load_m1 (i:=3) Y ta_3 Y Y Y ?_)
       refine Qah ?_;intro c75 h75
       refine Qf ?_
       refine Yz Y ?_ by7 by5
       simp_all;done
      intro c76 h76
      refine Qe ?_
      obtain ⟨rfl,g76⟩|⟨rfl,g76⟩:=Za h76
      ·refine QN ?_
       have hu2:(acc,q)=(yl,p4):=by
        cases mo with
        | false=>exact hu
        | true=>rw [if_pos rfl,altsL_err (fun e=>g76 ⟨rfl,e⟩)] at hu;exact hu
       simp only [Prod.mk.injEq] at hu2
       obtain ⟨rfl,rfl⟩:=hu2
       refine Qg ?_
       refine Zb 94 Y Y Y (Zh (xs:=[.tmp 93,.const (.int .i64 6),.const (.string ⟨#[101,110,100]⟩)]) (i:=3) Y Y Y (H4) by3 ?_)
       refine QG ?_
       refine Qac ?_
       refine QbK ?_
       refine Qo ?_
       subst hr;exact Zl (i:=2) rfl rfl rfl Ya rfl by2 (Yt _ (Yt _ (Yt _ (Ys _ (Yr _))))) ⟨rfl,rfl⟩
      refine QaG ?_
      refine QE ?_
      obtain ⟨rfl,hq0⟩:=g76
      have i3:=i3 rfl
      have hle:(Al.cellss acc).length≤200000:=by rw [Al.cellss_len];omega
      rw [if_pos rfl] at hu
      obtain ⟨f,rfl⟩:∃ f',f=f'+1:=⟨f - 1,by omega⟩
      rw [altsL,if_neg (by rw [hq0];simp)] at hu
      have HP:=patP_c b L hL n q i1
      have l1:=(patP_adv i1).ok i1
      have b1:=(patP_adv i1).1
      have HQ:=take_c b L hL _ l1.1 7 kArrow
      have l2:=(Zp (kind:=7) (s:=kArrow) by15 l1).ok l1
      have b2:=(Zp (kind:=7) (s:=kArrow) by15 l1).1
      have HR:=HE _ l2
      have l3:=(HA _ l2).ok l2
      have b3:=(HA _ l2).1
      obtain ⟨z,hz⟩:∃ z,altG L E q=z:=⟨_,rfl⟩
      rw [hz] at hu
      unfold altG at hz
      obtain ⟨⟨⟨vk,vs,vn,vl,vp⟩,q1⟩,f1⟩:∃ r,patP L q=r:=⟨_,rfl⟩
      rw [f1] at HP HQ HR hz l2 l3 b1 b2 b3
      obtain ⟨⟨u5,q2⟩,f2⟩:∃ r,takeP L q1 7 kArrow=r:=⟨_,rfl⟩
      simp only [] at HQ HR hz l2 l3 b1 b2 b3
      rw [f2] at HQ HR hz l2 l3 b2 b3
      simp only [] at HQ HR hz l2 l3 b1 b2 b3
      obtain ⟨⟨⟨wk,ws,wn,⟨wtk,wts,wtn,wtl⟩,wks,wal,wbs,wp⟩,q3⟩,f3⟩:∃ r,E q2=r:=⟨_,rfl⟩
      rw [f3] at HR hz l3 b3
      simp only [Pa.cells,Ex.cells,Ty.cells,List.cons_append,List.nil_append] at HP HR hz l3 b3
      subst hz
      simp only [] at hu
      have l3a:=l3.1
      refine Qg ?_
      refine Zb 78 Y Y Y (Zh (xs:=[.tmp 77]) (i:=3) Y Y Y (HP) by3 ?_)
      refine Zb 79 Y Y Y (Zi (ns:=[0]) (xs:=[.tmp 78]) Y tz_54 Y tfl_54 Y Y Y Y ?_)
      refine Qef ?_;intro b6
      refine Qeg ?_
      refine Qq ?_
      refine Zb 81 Y Y Y (Zh (xs:=[.tmp 80,.const (.int .i64 7),.const (.string ⟨#[45,62]⟩)]) (i:=4) Y Y Y (HQ) by3 ?_)
      refine Qq ?_
      refine Zb 83 Y Y Y (Zh (xs:=[.tmp 82]) (i:=4) Y Y Y (HR) by3 ?_)
      refine Qx ?_
      refine Zq Y Y (Zm (cs':=[_,_,_,_,_,_,_,_,_,_,_,_,_,_,_,_]) (i:=0) Y ts_47 Y Y Y Y Y (Xb Y) Y ?_)
      refine Qa ?_
      refine QaV ?_
      refine Zb 87 Y Y Y (Zx (cs':=[_,_,_,_,_,_,_,_,_,_,_,_,_,_,_,_]) (i:=0) Y ta_54 Y Y Y Y (Zb 88 Y Y Y (Ze (xs:=[.tmp 87]) el_45 Y Y Y Y Y Y (Xb Y) (Zb 89 Y Y Y (Zu (i:=5) el_45 Y Y Y Y (.seq _ _) by8 ?_)))))
      intro u89
      refine Qx ?_
      refine Zq Y Y (Zm (cs':=[_,_,_,_,_,_,_,_,_,_,_]) (i:=1) Y ts_45 Y Y Y Y Y (Xb Y) Y ?_)
      refine Qa ?_
      refine Qg ?_
      refine Zb 92 Y Y Y (op_mayc (xs:=[.tmp 91,.const (.string ⟨#[124]⟩)]) (i:=4) Y Y Y (may_c b L hL q3 kBar) by3 ?_ ?_)
      ·intro g92
       refine Qbb ?_
       first
       |(rw [if_pos g92] at hu;have l4:=(Yh l3 g92).ok l3;have l5:=(is_lt g92).2;exact ⟨(stepP q3,f,acc++[Al.mk (Pa.mk vk vs vn vl vp) (Ex.mk wk ws wn (Ty.mk wtk wts wtn wtl) wks wal wbs wp)],u89,true),⟨l4,(by show L.length - (q3.at_+1)<f;omega),(fun _=>by show (acc++_).length≤q3.at_+1;rw [List.length_append];simp;omega),hu⟩,(by show 2 * f+1<2 * (f+1)+1;omega),Yy rfl (Yv _) by6,(Yt _ (MLe.loc _ (Yx (Yv _) (Yx (Yv _) (Yx (Yv _) (Yx (Yv _) (Yx (Yv _) (Yx (Yv _) (Yx (Yv _) (Yx (Yv _) (Yx (Xa (by rw [Al.cellss_app'];rfl)) (Yw _)))))))))) (Ys _ (Ys _ (Yu rfl)))))⟩)
       |(rw [if_neg g92] at hu;exact ⟨(q3,f+1,acc++[Al.mk (Pa.mk vk vs vn vl vp) (Ex.mk wk ws wn (Ty.mk wtk wts wtn wtl) wks wal wbs wp)],u89,false),⟨l3,(by show L.length - q3.at_<f+1;omega),(fun h=>by cases h),hu⟩,(by show 2 * (f+1)+0<2 * (f+1)+1;omega),Yy rfl (Yv _) by6,(Yt _ (MLe.loc _ (Yx (Yv _) (Yx (Yv _) (Yx (Yv _) (Yx (Yv _) (Yx (Yv _) (Yx (Yv _) (Yx (Yv _) (Yx (Yv _) (Yx (Xa (by rw [Al.cellss_app'];rfl)) (Yw _)))))))))) (Ys _ (Ys _ (Yu rfl)))))⟩)
      intro g92
      refine Qbb ?_
      first
      |(rw [if_pos g92] at hu;have l4:=(Yh l3 g92).ok l3;have l5:=(is_lt g92).2;exact ⟨(stepP q3,f,acc++[Al.mk (Pa.mk vk vs vn vl vp) (Ex.mk wk ws wn (Ty.mk wtk wts wtn wtl) wks wal wbs wp)],u89,true),⟨l4,(by show L.length - (q3.at_+1)<f;omega),(fun _=>by show (acc++_).length≤q3.at_+1;rw [List.length_append];simp;omega),hu⟩,(by show 2 * f+1<2 * (f+1)+1;omega),Yy rfl (Yv _) by6,(Yt _ (MLe.loc _ (Yx (Yv _) (Yx (Yv _) (Yx (Yv _) (Yx (Yv _) (Yx (Yv _) (Yx (Yv _) (Yx (Yv _) (Yx (Yv _) (Yx (Xa (by rw [Al.cellss_app'];rfl)) (Yw _)))))))))) (Ys _ (Ys _ (Yu rfl)))))⟩)
      |(rw [if_neg g92] at hu;exact ⟨(q3,f+1,acc++[Al.mk (Pa.mk vk vs vn vl vp) (Ex.mk wk ws wn (Ty.mk wtk wts wtn wtl) wks wal wbs wp)],u89,false),⟨l3,(by show L.length - q3.at_<f+1;omega),(fun h=>by cases h),hu⟩,(by show 2 * (f+1)+0<2 * (f+1)+1;omega),Yy rfl (Yv _) by6,(Yt _ (MLe.loc _ (Yx (Yv _) (Yx (Yv _) (Yx (Yv _) (Yx (Yv _) (Yx (Yv _) (Yx (Yv _) (Yx (Yv _) (Yx (Yv _) (Yx (Xa (by rw [Al.cellss_app'];rfl)) (Yw _)))))))))) (Ys _ (Ys _ (Yu rfl)))))⟩)
     exact absurd g48 by15
    exact absurd g41 h4
   exact absurd g33 h3
  exact absurd g25 h2
 exact absurd g17 h1
theorem atom_par (b:Nat) (L:List Tok) (hL:L.length≤100000) (n:Nat) (E:PS→Ex × PS) (HE:ExC b L n E) (HA:∀ q,POk L n q→Adv L q (E q).2) (p:PS) (k:POk L n p) (h1:(nxt L p).k≠1) (h2:(nxt L p).k≠2) (h3:(nxt L p).k≠3) (h4:(nxt L p).k≠4) (hc:¬ isP L p kCase=true) (r:Ex × PS)
    (hr:(if isP L (takeP L p 7 kLP).2 kRP=true then (namE 4 kUnit (nxt L p).a,stepP (takeP L p 7 kLP).2)
     else if (nxt L (takeP L p 7 kLP).2).k=5 then (namE 3 (takeP L (takeP L p 7 kLP).2 5 kE).1.t (nxt L p).a,(takeP L (takeP L (takeP L p 7 kLP).2 5 kE).2 7 kRP).2)
     else annG L (nxt L p).a (E (takeP L p 7 kLP).2))=r):MCall Try.prog 74 [.ptr b 0] (.loc b (psC L p)) (.agg r.1.cells) (.loc b (psC L r.2)):=by
 have HN:=next_c b L p
 have H1:=take_c b L hL p k.1 7 kLP
 have k1:=(Zp (kind:=7) (s:=kLP) by15 k).ok k
 obtain ⟨⟨tk,tt,tn,ta⟩,ht⟩:∃ t,nxt L p=t:=⟨_,rfl⟩
 rw [ht] at HN hr h1 h2 h3 h4
 simp only [Tok.av] at HN hr h1 h2 h3 h4
 obtain ⟨⟨u1,p1⟩,e1⟩:∃ r,takeP L p 7 kLP=r:=⟨_,rfl⟩
 rw [e1] at H1 hr k1
 simp only [] at H1 hr k1
 have HN1:=next_c b L p1
 obtain ⟨⟨qk,qt,qn,qa⟩,ht1⟩:∃ t,nxt L p1=t:=⟨_,rfl⟩
 rw [ht1] at HN1 hr
 have H5:=take_c b L hL p1 k1.1 5 kE
 have k5:=(Zp (kind:=5) (s:=kE) by15 k1).ok k1
 have HX:=HE p1 k1
 have kx:=(HA p1 k1).ok k1
 obtain ⟨⟨⟨ok,ot,on,oa⟩,p5⟩,e5⟩:∃ r,takeP L p1 5 kE=r:=⟨_,rfl⟩
 rw [e5] at H5 k5 hr
 obtain ⟨⟨⟨xk,xs,xn,⟨xtk,xts,xtn,xtl⟩,xks,xal,xbs,xp⟩,p2⟩,e2⟩:∃ r,E p1=r:=⟨_,rfl⟩
 rw [e2] at HX kx hr
 unfold annG at hr
 simp only [Tok.av,Ex.cells,Ty.cells,List.cons_append,List.nil_append] at HN1 H5 k5 hr HX kx
 refine QdF ?_
 refine Qa0 ?_;intro b2
 refine Qq ?_
 refine Zb 10 Y Y Y (Yf (xs:=[.tmp 9]) [1] Y Y Y (HN) by3 ?_)
 refine QB ?_;intro b3
 refine Qai ?_
 refine QbE ?_
 refine QdG ?_
 refine QH ?_;intro b4
 refine QS ?_
 refine Qb5 ?_
 refine QaV ?_
 refine Qi ?_;intro c17 h17
 refine Qd ?_
 obtain ⟨rfl,g17⟩|⟨rfl,g17⟩:=Za h17
 ·refine Qbk ?_;intro c25 h25
  refine Qd ?_
  obtain ⟨rfl,g25⟩|⟨rfl,g25⟩:=Za h25
  ·refine Qbk ?_;intro c33 h33
   refine Qd ?_
   obtain ⟨rfl,g33⟩|⟨rfl,g33⟩:=Za h33
   ·refine Qbk ?_;intro c41 h41
    refine Qd ?_
    obtain ⟨rfl,g41⟩|⟨rfl,g41⟩:=Za h41
    ·refine QaD ?_
     refine QaU ?_
     refine QE ?_
     refine Qag ?_
     refine Q8 ?_;intro c48 h48
     refine Qa ?_
     obtain ⟨rfl,g48⟩|⟨rfl,g48⟩:=Za h48
     ·refine Qav ?_
      refine Zb 58 Y Y Y (Zh (xs:=[.tmp 57,.const (.string ⟨#[99,97,115,101]⟩)]) (i:=3) Y Y Y (may_no hL hc) by3 ?_)
      refine Qa ?_
      refine Q3 ?_
      refine Zb 97 Y Y Y (Zh (xs:=[.tmp 96,.const (.int .i64 7),.const (.string ⟨#[40]⟩)]) (i:=3) Y Y Y (H1) by3 ?_)
      refine Q2 ?_
      refine Zb 99 Y Y Y (op_mayc (xs:=[.tmp 98,.const (.string ⟨#[41]⟩)]) (i:=3) Y Y Y (may_c b L hL p1 kRP) by3 ?_ ?_)
      ·intro g99
       refine Qa ?_
       refine Qk ?_
       refine QaV ?_
       refine Zb 102 Y Y Y (Zi (ns:=[0,1,7]) (xs:=[.const (.int .i64 4),.const (.string ⟨#[85,110,105,116]⟩),.tmp 101]) Y tz_47 Y tfl_47 Y Y Y Y ?_)
       refine QbK ?_
       refine Qo ?_
       rw [if_pos g99] at hr;subst hr;exact Zl (i:=2) rfl rfl rfl Ya rfl by2 (Yt _ (Yt _ (Yt _ (Yu rfl)))) ⟨rfl,rfl⟩
      intro g99
      refine Qa ?_
      refine Qav ?_
      refine Zb 104 Y Y Y (Yf (xs:=[.tmp 103]) [3] Y Y Y (HN1) by3 ?_)
      refine QcM ?_
      refine Qi ?_;intro c106 h106
      refine Qa ?_
      obtain ⟨rfl,g106⟩|⟨rfl,g106⟩:=Za h106
      ·refine Q3 ?_
       refine Zb 117 Y Y Y (Zh (xs:=[.tmp 116]) (i:=3) Y Y Y (HX) by3 ?_)
       refine QH ?_;intro b8
       refine QS ?_
       refine Qa ?_
       refine QK ?_
       rw [if_neg g99,if_neg g106] at hr
       refine Qg ?_
       refine Zb 119 Y Y Y (op_mayc (xs:=[.tmp 118,.const (.string ⟨#[58]⟩)]) (i:=4) Y Y Y (may_c b L hL p2 kColon) by3 ?_ ?_)
       ·intro g119
        refine Qa ?_
        refine Qk ?_
        have ka:=(Yh kx g119).ok kx
        have HT:=typeP_c b L hL n _ ka
        have k8:=(typeP_adv ka).ok ka
        have H8:=take_c b L hL _ k8.1 7 kRP
        rw [if_pos g119] at hr
        obtain ⟨⟨⟨wk,ws,wn,wl⟩,p3⟩,e3⟩:∃ r,typeP L (stepP p2)=r:=⟨_,rfl⟩
        rw [e3] at HT H8 hr
        simp only [Ty.cells] at HT H8 hr
        refine Yc [0,2,3,4,5,1,6,7] [1,7] [[],[0],[],[2],[],[4],[0,1,2,3,4,5],[0,1,2,3,4,5,6]] tmix Y ?_
        refine Qr ?_
        refine QcR ?_
        refine Zf 123 (none) (i:=3) Y Y Y Y Y (Ze (xs:=[.tmp 122]) Yp Y Y Y Y Y Y (Xb Y) ⟨Y,Y⟩) ?_
        refine QR ?_
        refine Zf 125 (some 2) (i:=5) Y Y Y Y Y (op_load_m1 (i:=0) Y ta_3 Y Y Y ⟨Y,Y⟩) ?_
        refine Zz 4 (i:=1) Y Y Y Y Y (Zh (xs:=[.tmp 120]) (i:=0) Y Y Y (HT) by3 ⟨_,Y,?_⟩)
        refine Zf 126 (none) (i:=6) Y Y Y Y Y (Zi (ns:=[0,3,4,7]) (xs:=[.const (.int .i64 12),.tmp 121,.tmp 123,.tmp 125]) Y tz_47 Y tfl_47 Y Y Y Y ⟨Y,Y⟩) ?_
        refine Qce ?_
        show AGo _ _ _ _ _ _ _
        refine QaP ?_
        first|have H9:=H8|have H9:=take_c b L hL p2 kx.1 7 kRP
        refine Qg ?_
        refine Zb 128 Y Y Y (Zh (xs:=[.tmp 127,.const (.int .i64 7),.const (.string ⟨#[41]⟩)]) (i:=4) Y Y Y (H9) by3 ?_)
        refine QG ?_
        refine Qac ?_
        refine Qc2 ?_
        refine Qo ?_
        subst hr;exact Zl (i:=3) rfl rfl rfl Ya rfl by2 (Yt _ (Yt _ (Yt _ (Yt _ (Yu rfl))))) ⟨rfl,rfl⟩
       intro g119
       refine Qa ?_
       refine Qt ?_
       first|have H9:=H8|have H9:=take_c b L hL p2 kx.1 7 kRP
       refine Qg ?_
       refine Zb 128 Y Y Y (Zh (xs:=[.tmp 127,.const (.int .i64 7),.const (.string ⟨#[41]⟩)]) (i:=4) Y Y Y (H9) by3 ?_)
       refine QG ?_
       refine Qac ?_
       refine Qc2 ?_
       refine Qo ?_
       rw [if_neg g119] at hr;subst hr;exact Zl (i:=3) rfl rfl rfl Ya rfl by2 (Yt _ (Yt _ (Yt _ (Yt _ (Yu rfl))))) ⟨rfl,rfl⟩
      refine QaH ?_
      refine Zb 108 Y Y Y (Zh (xs:=[.tmp 107,.const (.int .i64 5),.const (.string ⟨#[]⟩)]) (i:=3) Y Y Y (H5) by3 ?_)
      refine QB ?_;intro b7
      refine Qai ?_
      refine Qq ?_
      refine Zb 110 Y Y Y (Zh (xs:=[.tmp 109,.const (.int .i64 7),.const (.string ⟨#[41]⟩)]) (i:=4) Y Y Y (take_c b L hL p5 k5.1 7 kRP) by3 ?_)
      refine QbE ?_
      refine Qx ?_
      refine Qa6 ?_
      refine Zb 115 Y Y Y (Zi (ns:=[0,1,7]) (xs:=[.const (.int .i64 3),.tmp 112,.tmp 114]) Y tz_47 Y tfl_47 Y Y Y Y ?_)
      refine Qc2 ?_
      refine Qo ?_
      rw [if_neg g99,if_pos g106] at hr;subst hr;exact Zl (i:=3) rfl rfl rfl Ya rfl by2 (Yt _ (Yt _ (Yt _ (Yt _ (Yu rfl))))) ⟨rfl,rfl⟩
     exact absurd g48 by15
    exact absurd g41 h4
   exact absurd g33 h3
  exact absurd g25 h2
 exact absurd g17 h1
theorem atom_c (b:Nat) (L:List Tok) (hL:L.length≤100000) (n:Nat) (E:PS→Ex × PS) (HE:ExC b L n E) (HA:∀ q,POk L n q→Adv L q (E q).2) (p:PS) (k:POk L n p):MCall Try.prog 74 [.ptr b 0] (.loc b (psC L p)) (.agg (atomG L E p).1.cells) (.loc b (psC L (atomG L E p).2)):=by
 by_cases h1:(nxt L p).k=1
 ·exact atom_lit b L hL n E p k (.inl h1)
 by_cases h2:(nxt L p).k=2
 ·exact atom_lit b L hL n E p k (.inr (.inl h2))
 by_cases h3:(nxt L p).k=3
 ·exact atom_lit b L hL n E p k (.inr (.inr (.inl h3)))
 by_cases h4:(nxt L p).k=4
 ·exact atom_lit b L hL n E p k (.inr (.inr (.inr h4)))
 by_cases h5:isP L p kCase=true
 ·rw [atomG,if_neg h1,if_neg h2,if_neg h3,if_neg h4,if_pos h5];exact atom_case b L hL n E HE HA p k h1 h2 h3 h4 h5
 exact atom_par b L hL n E HE HA p k h1 h2 h3 h4 h5 _ (by rw [atomG,if_neg h1,if_neg h2,if_neg h3,if_neg h4,if_neg h5])
theorem may_eq {b:Nat} {L:List Tok} (hL:L.length≤100000) {p:PS} {s:ByteArray} {c:Bool} (h:isP L p s=c):MCall Try.prog 71 [.ptr b 0,.val (.string s)] (.loc b (psC L p)) (.val (.bool c)) (.loc b (psC L (if c=true then stepP p else p))):=by
 cases c with
 | true=>exact may_yes hL h
 | false=>exact may_no hL (by rw [h];simp)
theorem operand_lam (b:Nat) (L:List Tok) (hL:L.length≤100000) (n:Nat) (E:PS→Ex × PS) (HE:ExC b L n E) (p:PS) (k:POk L n p) (h1:isP L p kBack=true):MCall Try.prog 56 [.ptr b 0] (.loc b (psC L p)) (.agg (lambdaG L E (L.length+1) (stepP p) (nxt L p).a).1.cells) (.loc b (psC L (lambdaG L E (L.length+1) (stepP p) (nxt L p).a).2)):=by
 have HN:=next_c b L p
 have HL:=lambda_c b L hL n E HE (L.length+1) (stepP p) (nxt L p).a ((Yh k h1).ok k) by16
 obtain ⟨⟨tk,tt,tn,ta⟩,ht⟩:∃ t,nxt L p=t:=⟨_,rfl⟩
 rw [ht] at HN HL ⊢
 simp only [Tok.av] at HN HL ⊢
 obtain ⟨⟨⟨xk,xs,xn,⟨xtk,xts,xtn,xtl⟩,xks,xal,xbs,xp⟩,p3⟩,e3⟩:∃ r,lambdaG L E (L.length+1) (stepP p) ta=r:=⟨_,rfl⟩
 rw [e3] at HL ⊢
 simp only [Ex.cells,Ty.cells,List.cons_append,List.nil_append] at HL ⊢
 refine Qdl ?_
 refine Qa0 ?_;intro b2
 refine Qq ?_
 refine Zb 10 Y Y Y (Yf (xs:=[.tmp 9]) [1] Y Y Y (HN) by3 ?_)
 refine QB ?_;intro b3
 refine QbA ?_
 refine Zb 12 Y Y Y (Zh (xs:=[.tmp 11,.const (.string ⟨#[92]⟩)]) (i:=2) Y Y Y (may_yes hL h1) by3 ?_)
 refine Qa ?_
 refine QaH ?_
 refine Qa8 ?_
 refine Zb 16 Y Y Y (Zh (xs:=[.tmp 13,.tmp 15]) (i:=2) Y Y Y (HL) by3 ?_)
 refine Qbp ?_
 refine Qo ?_
 exact Zl (i:=1) Y Y Y Ya Y (Yv _) (Yt _ (Yt _ (Yu Y))) ⟨Y,Y⟩
theorem bindsL_go {L:List Tok} {E:PS→Ex × PS} {f:Nat} {p:PS} {acc:List Bi} (h:isP L p kAnd=true):bindsL L E (f+1) p acc=bindsL L E f (bindG L E (stepP p)).2 (acc++[(bindG L E (stepP p)).1]):=by rw [bindsL,if_pos h]
theorem bindsL_end {L:List Tok} {E:PS→Ex × PS} {f:Nat} {p:PS} {acc:List Bi} (h:¬ isP L p kAnd=true):bindsL L E f p acc=(acc,p):=by
 cases f with
 | zero=>rfl
 | succ f=>rw [bindsL,if_neg h]
theorem operand_let (b:Nat) (L:List Tok) (hL:L.length≤100000) (n:Nat) (E:PS→Ex × PS) (HE:ExC b L n E) (HA:∀ q,POk L n q→Adv L q (E q).2) (p:PS) (k:POk L n p) (h1:¬ isP L p kBack=true) (h2:isP L p kLet=true) (c23:Bool) (h3:isP L (stepP p) kRec=c23) (r:Ex × PS) (hr:letG L E (nxt L p).a (if c23=true then 1 else 0) (if c23=true then stepP (stepP p) else stepP p)=r):MCall Try.prog 56 [.ptr b 0] (.loc b (psC L p)) (.agg r.1.cells) (.loc b (psC L r.2)):=by
 have HN:=next_c b L p
 have k1:=(Yh k h2).ok k
 have HM:=may_eq (b:=b) hL h3
 have kq:POk L n (if c23=true then stepP (stepP p) else stepP p):=by
  cases c23 with
  | true=>exact (Yh k1 h3).ok k1
  | false=>exact k1
 obtain ⟨⟨tk,tt,tn,ta⟩,ht⟩:∃ t,nxt L p=t:=⟨_,rfl⟩
 rw [ht] at HN hr
 simp only [Tok.av] at HN hr
 obtain ⟨p2,hp2⟩:∃ q,(if c23=true then stepP (stepP p) else stepP p)=q:=⟨_,rfl⟩
 rw [hp2] at HM hr kq
 unfold letG at hr
 simp only [] at hr
 have HB:=bind_c b L hL n E HE p2 kq
 have k3:=(bindG_adv HA kq).ok kq
 obtain ⟨⟨⟨bn,⟨xk,xs,xn,⟨xtk,xts,xtn,xtl⟩,xks,xal,xbs,xp⟩,bp⟩,p3⟩,e3⟩:∃ r,bindG L E p2=r:=⟨_,rfl⟩
 rw [e3] at HB hr k3
 have k4:=(bindsL_adv HA (L.length+1) p3 [Bi.mk bn (Ex.mk xk xs xn (Ty.mk xtk xts xtn xtl) xks xal xbs xp) bp] k3).ok k3
 obtain ⟨⟨bl,p4⟩,e4⟩:∃ r,bindsL L E (L.length+1) p3 [Bi.mk bn (Ex.mk xk xs xn (Ty.mk xtk xts xtn xtl) xks xal xbs xp) bp]=r:=⟨_,rfl⟩
 simp only [] at hr k3
 rw [e4] at hr k4
 simp only [] at hr k4
 have H4:=take_c b L hL p4 k4.1 6 kIn
 have k5:=(Zp (kind:=6) (s:=kIn) by15 k4).ok k4
 obtain ⟨⟨u5,p5⟩,e5⟩:∃ r,takeP L p4 6 kIn=r:=⟨_,rfl⟩
 rw [e5] at hr k5 H4
 simp only [] at hr k5 H4
 have HX:=HE p5 k5
 obtain ⟨⟨⟨yk,ys,yn,⟨ytk,yts,ytn,ytl⟩,yks,yal,ybs,yp⟩,p6⟩,e6⟩:∃ r,E p5=r:=⟨_,rfl⟩
 rw [e6] at HX hr
 simp only [Bi.cells,Ex.cells,Ty.cells,List.cons_append,List.nil_append] at HB HX hr
 refine Qdl ?_
 refine Qa0 ?_;intro b2
 refine Qq ?_
 refine Zb 10 Y Y Y (Yf (xs:=[.tmp 9]) [1] Y Y Y (HN) by3 ?_)
 refine QB ?_;intro b3
 refine QbA ?_
 refine Zb 12 Y Y Y (Zh (xs:=[.tmp 11,.const (.string ⟨#[92]⟩)]) (i:=2) Y Y Y (may_no hL h1) by3 ?_)
 refine Qa ?_
 refine Qav ?_
 refine Zb 18 Y Y Y (Zh (xs:=[.tmp 17,.const (.string ⟨#[108,101,116]⟩)]) (i:=2) Y Y Y (may_yes hL h2) by3 ?_)
 refine Qa ?_
 refine Qk ?_
 refine Qag ?_
 refine Zb 21 Y Y Y (Zi (ns:=[0,7]) (xs:=[.const (.int .i64 7),.tmp 20]) Y tz_47 Y tfl_47 Y Y Y Y ?_)
 refine QH ?_;intro b4
 refine QS ?_
 refine Q2 ?_
 refine Zb 23 Y Y Y (Zh (xs:=[.tmp 22,.const (.string ⟨#[114,101,99]⟩)]) (i:=3) Y Y Y (HM) by3 ?_)
 refine Qa ?_
 apply c_joink (rg [(1,1),(9,16),(42,1),(56,1),(60,1)]) (σ:=Unit) (fun zz=>match zz with|z=>[]) (fun zz=>match zz with|z=>[.loc b4 [.val (.int .i64 7),.val (.string kE),.val (.int .i64 (if c23=true then 1 else 0)),.val (.int .i64 0),.val (.string kE),.val (.int .i64 0),.val (.slice none 0 0),.val (.slice none 0 0),.val (.slice none 0 0),.val (.slice none 0 0),.val (.int .i64 ta)],.loc b3 (Tok.mk tk tt tn ta).av,.loc b2 zEx,.loc b (psC L p2)]) (fun zz=>match zz with|z=>True)
 ·repeat' (first|exact Xe|apply Xc rfl|apply Xd rfl)
 ·skip
  rcases c23 with _|_
  ·refine QbX ?_
   exact ⟨(),trivial,by6,Yu Y⟩
  refine Qk ?_
  refine Qbw ?_
  refine Qee ?_
  refine Q0 ?_
  refine go_lp ?_
  exact ⟨(),trivial,by6,Yu Y⟩
 rintro z hI
 try dsimp only [List.cons_append,List.nil_append] at hI ⊢
 refine QaP ?_
 refine Qcx ?_
 refine Qb2 ?_
 refine Zz 3 (i:=3) Y Y Y Y Y (Zh (xs:=[.tmp 27]) (i:=0) Y Y Y (HB) by3 ⟨_,Y,?_⟩)
 refine Zf 29 (none) (i:=4) Y Y Y Y Y (Ze (xs:=[.tmp 28]) el_32 Y Y Y Y Y Y (Xb Y) ⟨Y,Y⟩) ?_
 refine EOps.nw (i:=5) Y Y Y (op_append_nil el_32 Y Y Y (.seq _ _) by8 (fun u30=>⟨_,Y,?_⟩))
 refine QR ?_
 refine Qeh ?_
 show AGo _ _ _ _ _ _ _
 refine Qe ?_
 refine Qa7 ?_
 apply Yn (rg [(1,1),(9,32),(42,1),(56,1),(60,1)]) (σ:=PS × Nat × List Bi × Value) (fun zz=>match zz with|(q,f,acc,u)=>[]) (fun zz=>match zz with|(q,f,acc,u)=>[.loc b4 [.val (.int .i64 7),.val (.string kE),.val (.int .i64 (if c23=true then 1 else 0)),.val (.int .i64 0),.val (.string kE),.val (.int .i64 0),.val (.slice none 0 0),.val (.slice none 0 0),.val (.slice none 0 0),.own u 13 (Bi.cellss acc),.val (.int .i64 ta)],.loc b3 (Tok.mk tk tt tn ta).av,.loc b2 zEx,.loc b (psC L q),.own 49 13 u]) (fun zz=>match zz with|(q,f,acc,u)=>POk L n q∧L.length - q.at_<f∧acc.length≤q.at_+1∧bindsL L E f q acc=(bl,p4)) (fun zz=>match zz with|(q,f,acc,u)=>f) ((p3,L.length+1,[Bi.mk bn (Ex.mk xk xs xn (Ty.mk xtk xts xtn xtl) xks xal xbs xp) bp],u30))
 ·repeat' (first|exact Xe|apply Xc rfl|apply Xd rfl)
 ·exact ⟨k3,by omega,by simp,e4⟩
 ·exact by6
 ·exact (Yu Y)
 rintro ⟨q,f,acc,u⟩ hI
 try dsimp only [List.cons_append,List.nil_append] at hI ⊢
 obtain ⟨i1,i2,i3,hu⟩:=hI
 have hq1:=i1.1
 have hle:(Bi.cellss acc).length≤200000:=by rw [Bi.cellss_len];omega
 refine QU ?_
 refine Zb 33 Y Y Y (op_mayc (xs:=[.tmp 32,.const (.string ⟨#[97,110,100]⟩)]) (i:=3) Y Y Y (may_c b L hL q kAnd) by3 ?_ ?_)
 ·intro g33
  refine Qa ?_
  refine QaG ?_
  obtain ⟨f,rfl⟩:∃ f',f=f'+1:=⟨f - 1,by omega⟩
  rw [bindsL_go g33] at hu
  have l1:=(Yh i1 g33).ok i1
  have l2:=(bindG_adv HA l1).ok l1
  have b2':(stepP q).at_≤_:=(bindG_adv HA l1).1
  have b4':(stepP q).at_=q.at_+1:=rfl
  have b5':=(is_lt g33).2
  have HB2:=bind_c b L hL n E HE _ l1
  obtain ⟨⟨⟨cn,⟨wk,ws,wn,⟨wtk,wts,wtn,wtl⟩,wks,wal,wbs,wp⟩,cp⟩,q2⟩,f2⟩:∃ r,bindG L E (stepP q)=r:=⟨_,rfl⟩
  rw [f2] at HB2 hu l2 b2'
  simp only [Bi.cells,Ex.cells,Ty.cells,List.cons_append,List.nil_append] at HB2 hu l2 b2'
  have l3:=l2.1
  refine Qcx ?_
  refine Qb2 ?_
  refine Zz 3 (i:=3) Y Y Y Y Y (Zh (xs:=[.tmp 36]) (i:=0) Y Y Y (HB2) by3 ⟨_,Y,?_⟩)
  refine Zf 38 (none) (i:=4) Y Y Y Y Y (Ze (xs:=[.tmp 37]) el_32 Y Y Y Y Y Y (Xb Y) ⟨Y,Y⟩) ?_
  refine Zz 4 (i:=5) Y Y Y Y Y (Zu (i:=0) el_32 Y Y Y Y (.seq _ _) by8 (fun u39=>⟨_,Y,?_⟩))
  refine QR ?_
  refine Qeh ?_
  show AGo _ _ _ _ _ _ _
  refine Qak ?_
  refine ⟨(q2,f,acc++[Bi.mk cn (Ex.mk wk ws wn (Ty.mk wtk wts wtn wtl) wks wal wbs wp) cp],u39),⟨l2,(by show L.length - q2.at_<f;omega),(by show (acc++[Bi.mk cn (Ex.mk wk ws wn (Ty.mk wtk wts wtn wtl) wks wal wbs wp) cp]).length≤q2.at_+1;rw [List.length_append];simp;omega),hu⟩,Nat.lt_succ_self f,by6,(MLe.loc _ (Yx (Yv _) (Yx (Yv _) (Yx (Yv _) (Yx (Yv _) (Yx (Yv _) (Yx (Yv _) (Yx (Yv _) (Yx (Yv _) (Yx (Yv _) (Yx (Xa (by rw [Bi.cellss_app'];rfl)) (Yw _))))))))))) (Ys _ (Ys _ (Yu Y))))⟩
 intro g33
 refine Qa ?_
 refine QN ?_
 rw [bindsL_end g33] at hu
 simp only [Prod.mk.injEq] at hu
 obtain ⟨rfl,rfl⟩:=hu
 refine Qg ?_
 refine Zb 42 Y Y Y (Zh (xs:=[.tmp 41,.const (.int .i64 6),.const (.string ⟨#[105,110]⟩)]) (i:=3) Y Y Y (H4) by3 ?_)
 refine QL ?_
 refine Qcx ?_
 refine Qb2 ?_
 refine Zz 3 (i:=3) Y Y Y Y Y (Zh (xs:=[.tmp 45]) (i:=0) Y Y Y (HX) by3 ⟨_,Y,?_⟩)
 refine Zf 47 (none) (i:=4) Y Y Y Y Y (Ze (xs:=[.tmp 46]) Yp Y Y Y Y Y Y (Xb Y) ⟨Y,Y⟩) ?_
 refine EOps.nw (i:=5) Y Y Y (op_append_nil Yp Y Y Y (.seq _ _) by8 (fun u48=>⟨_,Y,?_⟩))
 refine QR ?_
 refine Qc3 ?_
 show AGo _ _ _ _ _ _ _
 refine Qe ?_
 refine Qn ?_
 refine Qac ?_
 refine QbK ?_
 refine Qo ?_
 subst hr;exact Zl (i:=2) rfl rfl rfl Ya rfl by2 (Yt _ (Yt _ (Yt _ (Ys _ (Yr _))))) ⟨rfl,rfl⟩
theorem operand_if (b:Nat) (L:List Tok) (hL:L.length≤100000) (n:Nat) (E:PS→Ex × PS) (HE:ExC b L n E) (HA:∀ q,POk L n q→Adv L q (E q).2) (p:PS) (k:POk L n p) (h1:¬ isP L p kBack=true) (h2:¬ isP L p kLet=true) (h3:isP L p kIf=true):MCall Try.prog 56 [.ptr b 0] (.loc b (psC L p)) (.agg (ifG L E (nxt L p).a (stepP p)).1.cells) (.loc b (psC L (ifG L E (nxt L p).a (stepP p)).2)):=by
 have HN:=next_c b L p
 obtain ⟨r,hr⟩:∃ r,ifG L E (nxt L p).a (stepP p)=r:=⟨_,rfl⟩
 rw [hr]
 unfold ifG at hr
 simp only [] at hr
 obtain ⟨⟨tk,tt,tn,ta⟩,ht⟩:∃ t,nxt L p=t:=⟨_,rfl⟩
 rw [ht] at HN hr
 simp only [Tok.av] at HN hr
 have k1:=(Yh k h3).ok k
 have H1:=HE _ k1
 have k2:=(HA _ k1).ok k1
 obtain ⟨⟨⟨xk,xs,xn,⟨xtk,xts,xtn,xtl⟩,xks,xal,xbs,xp⟩,p2⟩,e2⟩:∃ r,E (stepP p)=r:=⟨_,rfl⟩
 rw [e2] at H1 k2 hr
 simp only [] at k2 hr
 have H2:=take_c b L hL p2 k2.1 6 kThen
 have k3:=(Zp (kind:=6) (s:=kThen) by15 k2).ok k2
 obtain ⟨⟨u3,p3⟩,e3⟩:∃ r,takeP L p2 6 kThen=r:=⟨_,rfl⟩
 rw [e3] at H2 k3 hr
 simp only [] at H2 k3 hr
 have H3:=HE _ k3
 have k4:=(HA _ k3).ok k3
 obtain ⟨⟨⟨yk,ys,yn,⟨ytk,yts,ytn,ytl⟩,yks,yal,ybs,yp⟩,p4⟩,e4⟩:∃ r,E p3=r:=⟨_,rfl⟩
 rw [e4] at H3 k4 hr
 simp only [] at k4 hr
 have H4:=take_c b L hL p4 k4.1 6 kElse
 have k5:=(Zp (kind:=6) (s:=kElse) by15 k4).ok k4
 obtain ⟨⟨u5,p5⟩,e5⟩:∃ r,takeP L p4 6 kElse=r:=⟨_,rfl⟩
 rw [e5] at H4 k5 hr
 simp only [] at H4 k5 hr
 have H5:=HE _ k5
 obtain ⟨⟨⟨zk,zs,zn,⟨ztk,zts,ztn,ztl⟩,zks,zal,zbs,zp⟩,p6⟩,e6⟩:∃ r,E p5=r:=⟨_,rfl⟩
 rw [e6] at H5 hr
 simp only [Ex.cells,Ty.cells,List.cons_append,List.nil_append] at H1 H3 H5 hr
 refine Qdl ?_
 refine Qa0 ?_;intro b2
 refine Qq ?_
 refine Zb 10 Y Y Y (Yf (xs:=[.tmp 9]) [1] Y Y Y (HN) by3 ?_)
 refine QB ?_;intro b3
 refine QbA ?_
 refine Zb 12 Y Y Y (Zh (xs:=[.tmp 11,.const (.string ⟨#[92]⟩)]) (i:=2) Y Y Y (may_no hL h1) by3 ?_)
 refine Qa ?_
 refine Qav ?_
 refine Zb 18 Y Y Y (Zh (xs:=[.tmp 17,.const (.string ⟨#[108,101,116]⟩)]) (i:=2) Y Y Y (may_no hL h2) by3 ?_)
 refine Qa ?_
 refine Qav ?_
 refine Zb 52 Y Y Y (Zh (xs:=[.tmp 51,.const (.string ⟨#[105,102]⟩)]) (i:=2) Y Y Y (may_yes hL h3) by3 ?_)
 refine Qa ?_
 refine QaH ?_
 refine Zb 54 Y Y Y (Zh (xs:=[.tmp 53]) (i:=2) Y Y Y (H1) by3 ?_)
 refine QH ?_;intro b5
 refine QS ?_
 refine Qq ?_
 refine Zb 56 Y Y Y (Zh (xs:=[.tmp 55,.const (.int .i64 6),.const (.string ⟨#[116,104,101,110]⟩)]) (i:=3) Y Y Y (H2) by3 ?_)
 refine Qq ?_
 refine Zb 58 Y Y Y (Zh (xs:=[.tmp 57]) (i:=3) Y Y Y (H3) by3 ?_)
 refine QH ?_;intro b6
 refine QS ?_
 refine Qq ?_
 refine Zb 60 Y Y Y (Zh (xs:=[.tmp 59,.const (.int .i64 6),.const (.string ⟨#[101,108,115,101]⟩)]) (i:=4) Y Y Y (H4) by3 ?_)
 refine Qq ?_
 refine Zb 62 Y Y Y (Zh (xs:=[.tmp 61]) (i:=4) Y Y Y (H5) by3 ?_)
 refine QH ?_;intro b7
 refine QS ?_
 refine QG ?_
 refine Qdk ?_
 refine QcO ?_
 refine Qac ?_
 refine Zb 66 Y Y Y (Ze (xs:=[.tmp 63,.tmp 64,.tmp 65]) Yp Y Y Y Y Y Y (Xb Y) ?_)
 refine Qx ?_
 refine Qcw ?_
 refine Zb 69 Y Y Y (Zi (ns:=[0,4,7]) (xs:=[.const (.int .i64 9),.tmp 66,.tmp 68]) Y tz_47 Y tfl_47 Y Y Y Y ?_)
 refine Qec ?_
 refine Qo ?_
 subst hr;exact Zl (i:=4) rfl rfl rfl Ya rfl by2 (Yt _ (Yt _ (Yt _ (Yt _ (Yt _ (Yu rfl)))))) ⟨rfl,rfl⟩
theorem appsL_go {L:List Tok} {E:PS→Ex × PS} {a:Int} {f:Nat} {p:PS} {x:Ex} (h:startsP L 2 p):appsL L E a (f+1) p x=appsL L E a f (atomG L E p).2 (opE 5 [x,(atomG L E p).1] a):=by rw [appsL,if_pos h]
theorem appsL_end {L:List Tok} {E:PS→Ex × PS} {a:Int} {f:Nat} {p:PS} {x:Ex} (h:¬ startsP L 2 p):appsL L E a f p x=(x,p):=by
 cases f with
 | zero=>rfl
 | succ f=>rw [appsL,if_neg h]
theorem operand_app (b:Nat) (L:List Tok) (hL:L.length≤100000) (n:Nat) (E:PS→Ex × PS) (HE:ExC b L n E) (HA:∀ q,POk L n q→Adv L q (E q).2) (p:PS) (k:POk L n p) (h1:¬ isP L p kBack=true) (h2:¬ isP L p kLet=true) (h3:¬ isP L p kIf=true) (r:Ex × PS) (hr:appsL L E (nxt L p).a (L.length+1) (atomG L E p).2 (atomG L E p).1=r):MCall Try.prog 56 [.ptr b 0] (.loc b (psC L p)) (.agg r.1.cells) (.loc b (psC L r.2)):=by
 have HN:=next_c b L p
 obtain ⟨⟨tk,tt,tn,ta⟩,ht⟩:∃ t,nxt L p=t:=⟨_,rfl⟩
 rw [ht] at HN hr
 simp only [Tok.av] at HN hr
 have H1:=atom_c b L hL n E HE HA p k
 have k2:=(atom_adv HA k).ok k
 obtain ⟨⟨⟨zk,zs,zn,⟨ztk,zts,ztn,ztl⟩,zks,zal,zbs,zp⟩,p2⟩,e2⟩:∃ r,atomG L E p=r:=⟨_,rfl⟩
 rw [e2] at H1 k2 hr
 simp only [Ex.cells,Ty.cells,List.cons_append,List.nil_append] at H1 k2 hr
 refine Qdl ?_
 refine Qa0 ?_;intro b2
 refine Qq ?_
 refine Zb 10 Y Y Y (Yf (xs:=[.tmp 9]) [1] Y Y Y (HN) by3 ?_)
 refine QB ?_;intro b3
 refine QbA ?_
 refine Zb 12 Y Y Y (Zh (xs:=[.tmp 11,.const (.string ⟨#[92]⟩)]) (i:=2) Y Y Y (may_no hL h1) by3 ?_)
 refine Qa ?_
 refine Qav ?_
 refine Zb 18 Y Y Y (Zh (xs:=[.tmp 17,.const (.string ⟨#[108,101,116]⟩)]) (i:=2) Y Y Y (may_no hL h2) by3 ?_)
 refine Qa ?_
 refine Qav ?_
 refine Zb 52 Y Y Y (Zh (xs:=[.tmp 51,.const (.string ⟨#[105,102]⟩)]) (i:=2) Y Y Y (may_no hL h3) by3 ?_)
 refine Qa ?_
 refine Q3 ?_
 refine Zb 71 Y Y Y (Zh (xs:=[.tmp 70]) (i:=2) Y Y Y (H1) by3 ?_)
 refine QH ?_;intro b8
 refine QS ?_
 refine Qb5 ?_
 apply Yn (rg [(1,1),(4,4),(9,38),(48,33)]) (σ:=PS × Nat × Ex) (fun zz=>match zz with|(q,f,Ex.mk xk xs xn (Ty.mk xtk xts xtn xtl) xks xal xbs xp)=>[]) (fun zz=>match zz with|(q,f,Ex.mk xk xs xn (Ty.mk xtk xts xtn xtl) xks xal xbs xp)=>[.loc b8 [.val (.int .i64 xk),.val (.string xs),.val (.int .i64 xn),.val (.int .i64 xtk),.val (.string xts),.val (.int .i64 xtn),.seq 4 (Ty.cellss xtl),.seq 11 (Ex.cellss xks),.seq 16 (Al.cellss xal),.seq 13 (Bi.cellss xbs),.val (.int .i64 xp)],.loc b3 (Tok.mk tk tt tn ta).av,.loc b2 zEx,.loc b (psC L q)]) (fun zz=>match zz with|(q,f,Ex.mk xk xs xn (Ty.mk xtk xts xtn xtl) xks xal xbs xp)=>POk L n q∧L.length - q.at_<f∧appsL L E ta f q (Ex.mk xk xs xn (Ty.mk xtk xts xtn xtl) xks xal xbs xp)=r) (fun zz=>match zz with|(q,f,Ex.mk xk xs xn (Ty.mk xtk xts xtn xtl) xks xal xbs xp)=>f) ((p2,L.length+1,Ex.mk zk zs zn (Ty.mk ztk zts ztn ztl) zks zal zbs zp))
 ·repeat' (first|exact Xe|apply Xc rfl|apply Xd rfl)
 ·exact ⟨k2,by omega,hr⟩
 ·exact by6
 ·exact (Yu Y)
 rintro ⟨q,f,⟨xk,xs,xn,⟨xtk,xts,xtn,xtl⟩,xks,xal,xbs,xp⟩⟩ hI
 try dsimp only [List.cons_append,List.nil_append] at hI ⊢
 obtain ⟨i1,i2,hu⟩:=hI
 have hq1:=i1.1
 refine QU ?_
 refine Zb 73 Y Y Y (op_callkb (xs:=[.tmp 72,.const (.int .i64 2)]) [3] Y Y Y (starts_c b L q 2) by3 ?_);intro c73 h73
 refine Qa ?_
 obtain ⟨rfl,g73⟩|⟨rfl,g73⟩:=Za h73
 ·refine Qar ?_
  refine Qn ?_
  refine Qac ?_
  refine QbK ?_
  refine Qo ?_
  rw [appsL_end g73] at hu;subst hu;exact Zl (i:=2) rfl rfl rfl Ya rfl (Yv _) (Yt _ (Yt _ (Yt _ (Yu rfl)))) ⟨rfl,rfl⟩
 refine QaG ?_
 obtain ⟨f,rfl⟩:∃ f',f=f'+1:=⟨f - 1,by omega⟩
 rw [appsL_go g73] at hu
 have b1:=atom_lt HA i1 g73
 have l2:=(atom_adv HA i1).ok i1
 have HA2:=atom_c b L hL n E HE HA q i1
 obtain ⟨⟨⟨wk,ws,wn,⟨wtk,wts,wtn,wtl⟩,wks,wal,wbs,wp⟩,q2⟩,f2⟩:∃ r,atomG L E q=r:=⟨_,rfl⟩
 rw [f2] at HA2 hu l2 b1
 simp only [Ex.cells,Ty.cells,List.cons_append,List.nil_append] at HA2 hu l2 b1
 have l3:=l2.1
 refine Yc [0,1,4,5,2,3,6,7] [2,7] [[],[],[1],[0,1,2],[],[4],[0,1,2,3,4,5],[0,1,2,3,4,5,6]] tmix Y ?_
 refine QcR ?_
 refine Qr ?_
 refine QR ?_
 refine QdA ?_
 refine Zz 3 (i:=2) Y Y Y Y Y (Zh (xs:=[.tmp 75]) (i:=0) Y Y Y (HA2) by3 ⟨_,Y,?_⟩)
 refine Zf 77 (none) (i:=3) Y Y Y Y Y (Ze (xs:=[.tmp 74,.tmp 76]) Yp Y Y Y Y Y Y (Xb Y) ⟨Y,Y⟩) ?_
 refine Zf 80 (none) (i:=6) Y Y Y Y Y (Zi (ns:=[0,4,7]) (xs:=[.const (.int .i64 5),.tmp 77,.tmp 79]) Y tz_47 Y tfl_47 Y Y Y Y ⟨Y,Y⟩) ?_
 refine Qce ?_
 show AGo _ _ _ _ _ _ _
 refine Qak ?_
 refine ⟨(q2,f,Ex.mk 5 kE 0 (Ty.mk 0 kE 0 []) [Ex.mk xk xs xn (Ty.mk xtk xts xtn xtl) xks xal xbs xp,Ex.mk wk ws wn (Ty.mk wtk wts wtn wtl) wks wal wbs wp] [] [] ta),⟨l2,(by show L.length - q2.at_<f;omega),hu⟩,Nat.lt_succ_self f,by6,(MLe.loc _ by2 (Ys _ (Ys _ (Yu Y))))⟩
theorem operand_c (b:Nat) (L:List Tok) (hL:L.length≤100000) (n:Nat) (E:PS→Ex × PS) (HE:ExC b L n E) (HA:∀ q,POk L n q→Adv L q (E q).2) (p:PS) (k:POk L n p):MCall Try.prog 56 [.ptr b 0] (.loc b (psC L p)) (.agg (operandG L E p).1.cells) (.loc b (psC L (operandG L E p).2)):=by
 unfold operandG
 by_cases h1:isP L p kBack=true
 ·rw [if_pos h1];exact operand_lam b L hL n E HE p k h1
 by_cases h2:isP L p kLet=true
 ·rw [if_neg h1,if_pos h2]
  by_cases h3:isP L (stepP p) kRec=true
  ·rw [if_pos h3];exact operand_let b L hL n E HE HA p k h1 h2 true h3 _ rfl
  rw [if_neg h3];exact operand_let b L hL n E HE HA p k h1 h2 false (by simpa using h3) _ rfl
 by_cases h3:isP L p kIf=true
 ·rw [if_neg h1,if_neg h2,if_pos h3];exact operand_if b L hL n E HE HA p k h1 h2 h3
 rw [if_neg h1,if_neg h2,if_neg h3];exact operand_app b L hL n E HE HA p k h1 h2 h3 _ rfl
theorem Exp_err (b:Nat) (L:List Tok) (p:PS) (he:p.e≠0):MCall Try.prog 38 [.ptr b 0] (.loc b (psC L p)) (.agg ex0.cells) (.loc b (psC L p)):=by
 refine Zc Try.func38 Y (by kernel_rfl) Y (Xb Y) ?_
 refine Qa0 ?_;intro b2
 refine Q2 ?_
 refine QA ?_
 refine Qao ?_
 refine Q5 ?_;intro c12 h12
 refine Qa ?_
 obtain ⟨rfl,g12⟩|⟨rfl,g12⟩:=Za h12
 ·exact absurd he g12
 refine Q7 ?_
 refine QdI ?_
 refine Qb6 ?_
 exact Zl (i:=0) Y Y Y Ya Y by2 (Yt _ (MLe.refl _)) ⟨Y,Y⟩
theorem clash_in (lv:Nat→Nat):∀ f k,clashL lv f k = -1∨((k:Int)≤clashL lv f k∧clashL lv f k<k+f)
 | 0,k=>.inl rfl
 | f+1,k=>by
  unfold clashL
  split
  ·right;omega
  rcases clash_in lv f (k+1) with h|h
  ·exact .inl h
  right;omega
theorem clashP_lt {ops:List Tok} (h:0≤clashP ops):(clashP ops).toNat<ops.length:=by
 rcases clash_in (lvT ops) ops.length 0 with q|q <;> unfold clashP at * <;> omega
theorem opsL_go {L:List Tok} {E:PS→Ex × PS} {f:Nat} {p:PS} {l:List Ex} {o:List Tok} (h:(nxt L p).k=5):opsL L E (f+1) p l o=opsL L E f (operandG L E (takeP L p 5 kE).2).2 (l++[(operandG L E (takeP L p 5 kE).2).1]) (o++[(takeP L p 5 kE).1]):=by rw [opsL,if_pos h]
theorem opsL_end {L:List Tok} {E:PS→Ex × PS} {f:Nat} {p:PS} {l:List Ex} {o:List Tok} (h:¬ (nxt L p).k=5):opsL L E f p l o=((l,o),p):=by
 cases f with
 | zero=>rfl
 | succ f=>rw [opsL,if_neg h]
theorem Exp_ok (b:Nat) (L:List Tok) (hL:L.length≤100000) (n:Nat) (E:PS→Ex × PS) (HE:ExC b L n E) (HA:∀ q,POk L n q→Adv L q (E q).2) (p:PS) (k:POk L (n+1) p) (he:p.e=0) (r:Ex × PS) (hr:joinE (opsL L E (L.length+1) (operandG L E (deeperP L p)).2 [(operandG L E (deeperP L p)).1] [])=r):MCall Try.prog 38 [.ptr b 0] (.loc b (psC L p)) (.agg r.1.cells) (.loc b (psC L r.2)):=by
 have kq:=deeper_ok k he
 have H1:=operand_c b L hL n E HE HA _ kq
 have k2:=(operand_adv HA kq).ok kq
 obtain ⟨⟨⟨zk,zs,zn,⟨ztk,zts,ztn,ztl⟩,zks,zal,zbs,zp⟩,p2⟩,e2⟩:∃ r,operandG L E (deeperP L p)=r:=⟨_,rfl⟩
 rw [e2] at H1 k2 hr
 simp only [] at k2 hr
 obtain ⟨⟨⟨yl,yo⟩,p4⟩,e4⟩:∃ r,opsL L E (L.length+1) p2 [Ex.mk zk zs zn (Ty.mk ztk zts ztn ztl) zks zal zbs zp] []=r:=⟨_,rfl⟩
 rw [e4] at hr
 unfold joinE at hr
 simp only [Ex.cells,Ty.cells,List.cons_append,List.nil_append] at H1 hr
 refine Zc Try.func38 Y (by kernel_rfl) Y (Xb Y) ?_
 refine Qa0 ?_;intro b2
 refine Q2 ?_
 refine QA ?_
 refine Qao ?_
 refine Q5 ?_;intro c12 h12
 refine Qa ?_
 obtain ⟨rfl,g12⟩|⟨rfl,g12⟩:=Za h12
 ·refine Q3 ?_
  refine Zb 15 Y Y Y (Zh (xs:=[.tmp 14]) (i:=1) Y Y Y (deeper_c b L p k.2.1 (by have:=k.2.2.1;omega)) by3 ?_)
  refine Qq ?_
  refine Zb 17 Y Y Y (Zh (xs:=[.tmp 16]) (i:=1) Y Y Y (H1) by3 ?_)
  refine Zb 18 Y Y Y (op_buildSlice_own (xs:=[.tmp 17]) Yp Y Y Y Y Y Y (Xb Y) ?_);intro u18
  refine Qd ?_
  refine QC ?_
  refine QC ?_
  refine Qa7 ?_
  refine c_ownNew 84 4 (c_ownNew 9 1 ?_)
  apply Yn (rg [(1,1),(3,4),(8,31),(55,1)]) (σ:=PS × Nat × List Ex × List Tok × Value × Value × Value) (fun zz=>match zz with|(q,f,l,ops,u,v,w)=>[(3,.own u 11 (Ex.cellss l)),(4,.own v 4 (ops.map Tok.av)),(5,.own w 1 (strs (ops.map Tok.t)))]) (fun zz=>match zz with|(q,f,l,ops,u,v,w)=>[.own 47 11 u,.loc b2 zEx,.loc b (psC L q),.own 84 4 v,.own 9 1 w]) (fun zz=>match zz with|(q,f,l,ops,u,v,w)=>POk L n q∧L.length - q.at_<f∧l.length=ops.length+1∧ops.length≤q.at_∧opsL L E f q l ops=((yl,yo),p4)) (fun zz=>match zz with|(q,f,l,ops,u,v,w)=>f) ((p2,L.length+1,[Ex.mk zk zs zn (Ty.mk ztk zts ztn ztl) zks zal zbs zp],[],u18,.slice none 0 0,.slice none 0 0))
  ·repeat' (first|exact Xe|apply Xc rfl|apply Xd rfl)
  ·exact ⟨k2,by omega,Y,Nat.zero_le _,e4⟩
  ·exact Yy Y (Yv _) (Yy Y (Le.nilOwn 4) (Yy Y (Le.nilOwn 1) (SLe.nil _)))
  ·exact (Yu Y)
  rintro ⟨q,f,l,ops,u,v,w⟩ hI
  try dsimp only [List.cons_append,List.nil_append] at hI ⊢
  obtain ⟨i1,i2,i3,i4,hu⟩:=hI
  have hq1:=i1.1
  have hb1:=i1.2.1
  have hb2:=i1.2.2.1
  have hl1:(Ex.cellss l).length≤200000:=by rw [Ex.cellss_len];omega
  have hl2:(ops.map Tok.av).length≤200000:=by rw [List.length_map];omega
  have hl3:(strs (ops.map Tok.t)).length≤200000:=by rw [strs_len,List.length_map];omega
  have HN:=next_c b L q
  have hkn:(nxt L q).k=5→q.at_<L.length:=fun e=>(nxt_in by16).2
  have hgo:=fun f=>opsL_go (L:=L) (E:=E) (f:=f) (p:=q) (l:=l) (o:=ops)
  have hend:=opsL_end (L:=L) (E:=E) (f:=f) (p:=q) (l:=l) (o:=ops)
  have htk:=fun h:(nxt L q).k=5=>take_k (s:=kE) h by15 by15
  obtain ⟨⟨qk,qt,qn,qa⟩,hqt⟩:∃ t,nxt L q=t:=⟨_,rfl⟩
  rw [hqt] at HN hkn hgo hend htk
  simp only [Tok.av] at HN hkn hgo hend htk
  refine QU ?_
  refine Zb 20 Y Y Y (Yf (xs:=[.tmp 19]) [2] Y Y Y (HN) by3 ?_)
  refine QcM ?_
  refine Qi ?_;intro c22 h22
  refine Qa ?_
  obtain ⟨rfl,g22⟩|⟨rfl,g22⟩:=Za h22
  ·refine QbS ?_
   rw [hend g22] at hu
   simp only [Prod.mk.injEq] at hu
   obtain ⟨⟨rfl,rfl⟩,rfl⟩:=hu
   refine Qg ?_
   refine QA ?_
   refine Qa6 ?_
   refine Q5 ?_;intro c43 h43
   refine Qa ?_
   obtain ⟨rfl,g43⟩|⟨rfl,g43⟩:=Za h43
   ·refine Q3 ?_
    refine Zb 46 Y Y Y (Zd (xs:=[.tmp 45]) Y Y (Clash_p ops by16) by3 ?_)
    refine Qbz ?_
    refine Qcn ?_;intro c48 h48
    refine Qa ?_
    obtain ⟨rfl,g48⟩|⟨rfl,g48⟩:=Za h48
    ·refine Q3 ?_
     refine QA ?_
     refine Qa6 ?_
     refine QT ?_
     refine QA ?_
     refine QcL ?_
     refine QL ?_
     have HB:=Build_c l ops i3 by16 ops.length 0 ops.length (Nat.zero_le _) (Nat.le_refl _) by16
     rw [if_neg g43,if_neg g48] at hr
     obtain ⟨⟨wk,ws,wn,⟨wtk,wts,wtn,wtl⟩,wks,wal,wbs,wp⟩,f2⟩:∃ r,buildF l ops ops.length 0 ops.length=r:=⟨_,rfl⟩
     rw [f2] at HB hr
     simp only [Ex.cells,Ty.cells,List.cons_append,List.nil_append] at HB
     have hlen:(ops.map Tok.av).length=ops.length:=List.length_map _
     rw [show ((ops.length:Nat):Int)=(((ops.map Tok.av).length:Nat):Int) by rw [hlen]] at HB
     refine QJ ?_
     refine Qb ?_
     refine Zb 67 Y Y Y (op_len Y tu_86 Y (.own _ _ _) (fun n67=>?_))
     refine Zb 68 Y Y Y (Zd (xs:=[.tmp 64,.tmp 65,.const (.int .i64 0),.tmp 67]) Y Y (HB) by3 ?_)
     refine Qbp ?_
     refine Qo ?_
     subst hr;exact Zl (i:=1) rfl rfl rfl Ya rfl by2 (Yt _ (Yt _ (Ys _ (Yr _)))) ⟨rfl,rfl⟩
    refine Qbd ?_
    have hcl:=clashP_lt g48
    refine QJ ?_
    refine Qb ?_
    refine Zb 52 Y Y Y (Zo (i:=(clashP ops).toNat) Y te_86 Y (.own _ _ _) Y (by first|rfl|omega) (toks_at hcl) ?_)
    refine Ql ?_
    refine Zb 55 Y Y Y (Zh (xs:=[.tmp 49,.const (.int .i64 112),.tmp 54]) (i:=2) Y Y Y (fail_c b L q 112 _) by3 ?_)
    refine QG ?_
    refine QdI ?_
    refine Qbp ?_
    refine Qo ?_
    rw [if_neg g43,if_pos g48] at hr;subst hr;exact Zl (i:=1) rfl rfl rfl Ya rfl by2 (Yt _ (Yt _ (Ys _ (Yr _)))) ⟨rfl,rfl⟩
   refine Q7 ?_
   refine QdI ?_
   refine Qbp ?_
   refine Qo ?_
   rw [if_pos g43] at hr;subst hr;exact Zl (i:=1) rfl rfl rfl Ya rfl by2 (Yt _ (Yt _ (Ys _ (Yr _)))) ⟨rfl,rfl⟩
  refine QaG ?_
  refine QE ?_
  obtain ⟨f,rfl⟩:∃ f',f=f'+1:=⟨f - 1,by omega⟩
  have hlt:=hkn g22
  rw [hgo f g22,htk g22] at hu
  have HT:=take_c b L hL q hq1 5 kE
  rw [htk g22] at HT
  have l1:=(Yq i1 hlt).ok i1
  have HO:=operand_c b L hL n E HE HA _ l1
  have l2:=(operand_adv HA l1).ok l1
  have b1:(stepP q).at_≤_:=(operand_adv HA l1).1
  have b2':(stepP q).at_=q.at_+1:=rfl
  obtain ⟨⟨⟨wk,ws,wn,⟨wtk,wts,wtn,wtl⟩,wks,wal,wbs,wp⟩,q2⟩,f2⟩:∃ r,operandG L E (stepP q)=r:=⟨_,rfl⟩
  simp only [] at hu
  rw [f2] at HO l2 b1 hu
  simp only [Tok.av,Ex.cells,Ty.cells,List.cons_append,List.nil_append] at HT HO l2 b1 hu
  have l3:=l2.1
  refine Qg ?_
  refine Zb 24 Y Y Y (Zh (xs:=[.tmp 23,.const (.int .i64 5),.const (.string ⟨#[]⟩)]) (i:=2) Y Y Y (HT) by3 ?_)
  refine QB ?_;intro b6
  refine Qai ?_
  refine Qq ?_
  refine Qbm ?_
  refine Zb 27 Y Y Y (Ze (xs:=[.tmp 26]) el_86 Y Y Y Y Y Y (Xb Y) (Zb 28 Y Y Y (Zu (i:=4) el_86 Y Y Y Y (.seq _ _) by8 ?_)))
  intro u28
  refine QaI ?_
  refine Qa8 ?_
  refine Zb 32 Y Y Y (Ze (xs:=[.tmp 31]) el_22 Y Y Y Y Y Y (Xb Y) (Zb 33 Y Y Y (Zu (i:=5) el_22 Y Y Y Y (.seq _ _) by8 ?_)))
  intro u33
  refine Qd ?_
  refine QJ ?_
  refine Zb 36 Y Y Y (Zh (xs:=[.tmp 35]) (i:=3) Y Y Y (HO) by3 ?_)
  refine Zb 37 Y Y Y (Ze (xs:=[.tmp 36]) Yp Y Y Y Y Y Y (Xb Y) (Zb 38 Y Y Y (Zu (i:=1) Yp Y Y Y Y (.seq _ _) by8 ?_)))
  intro u38
  refine Qbb ?_
  refine ⟨(q2,f,l++[Ex.mk wk ws wn (Ty.mk wtk wts wtn wtl) wks wal wbs wp],ops++[Tok.mk qk qt qn qa],u38,u28,u33),⟨l2,(by show L.length - q2.at_<f;omega),(by simp [i3]),(by show (ops++[Tok.mk qk qt qn qa]).length≤q2.at_;rw [List.length_append];simp;omega),hu⟩,Nat.lt_succ_self f,Yy Y (Xa (by rw [Ex.cellss_app'];rfl)) (Yy Y (Xa (by rw [List.map_append];rfl)) (Yy Y (Xa (by rw [List.map_append,strs_app];rfl)) by6)),Yt _ (Yu Y)⟩
 exact absurd he g12
theorem Exp_c (b:Nat) (L:List Tok) (hL:L.length≤100000):∀ n,ExC b L n (expF L n)
 | 0,p,k=>Exp_err b L p (fun e=>by have:=k.2.2.2 e;omega)
 | n+1,p,k=>by
  by_cases he:p.e=0
  ·exact Exp_ok b L hL n (expF L n) (Exp_c b L hL n) (expF_adv n) p k he _ (by rw [expF,if_neg (by rw [he];simp)])
  rw [expF,if_pos he];exact Exp_err b L p he
theorem expP_c (b:Nat) (L:List Tok) (hL:L.length≤100000):ExC b L 302 (expP L):=Exp_c b L hL 302
end Go.Proofs.Ytefbicnoddggnaa
namespace Go.Proofs.Ytefbicnoddggnaa
open Go.RowKit
def EOpsF (P:Program) (ops:List Oper) (ws:List Nat) (anc:List (List Nat)) (i0:Nat) (cs0:List AV) (Q:Sl→Mem→Prop):List Nat→Sl→Mem→List (Nat × Nat)→Prop
 | [],al,M,_=>Q al M
 | i::ord,al,M,L=>∃ o,ops[i]?=some o ∧
     if i=i0 then ∀ b,EOpsF P ops ws anc i0 cs0 Q ord (al.put o.dst (.ptr b 0)) (M++[.loc b cs0]) L
     else if ws.contains i then o.guard=none ∧
      ((∃ k r,M[k]?=some r∧(L.all fun x=>x.2 != k ||(anc.getD i []).contains x.1)=true∧OpT P o (al.only (Oper.tmps o)) [r] (fun v M'=>∃ r',M'=[r']∧EOpsF P ops ws anc i0 cs0 Q ord (al.put o.dst v) (M.set k r') L)) ∨
       OpT P o (al.only (Oper.tmps o)) [] (fun v M'=>EOpsF P ops ws anc i0 cs0 Q ord (al.put o.dst v) (M++M') L))
     else ∃ (fp:Option Nat) (v:AV),fp.all (fun k=>Nat.blt k M.length)=true∧DStep P ops o al (fpm M fp) v∧EOpsF P ops ws anc i0 cs0 Q ord (al.put o.dst v) M ((fp.toList.map fun k=>(i,k))++L)
def flowEF (n:Nat) (l:List Oper) (ord ws:List Nat) (anc:List (List Nat)) (i0:Nat):Bool :=
 (ord.length == l.length && (List.range l.length).all (ord.contains ·) && decide ord.Nodup && ord.all (fun i=>Nat.blt i l.length)) &&
 (l.zipIdx.all fun (o,i)=>o.dst.all (·<n) && (bindsOn o).all (fun j=>j<i) &&
  (anc.getD i []).all (fun a=>(bindsOn o).contains a ||(bindsOn o).any (fun c=>(anc.getD c []).contains a))) &&
 (ws.all fun j=>(List.range l.length).all fun i=>i == j || befo ord i j ||(anc.getD i []).contains j || i == i0) &&
 (l.zipIdx.all fun (o,i)=>l.zipIdx.all fun (p,k)=>(k == i || o.dst.isNone || o.dst != p.dst) &&
     (match p.dst with
      | some t => !(Oper.sees l o).contains t || k == i ||(if befo ord k i then (anc.getD i []).contains k else (anc.getD k []).contains i)
      | none=>true)) && ws.contains i0
structure FlowEF (n:Nat) (l:List Oper) (ord ws:List Nat) (anc:List (List Nat)) (i0:Nat):Prop where
 nodup:ord.Nodup
 mem:∀ i,i<l.length→i∈ord
 lt:∀ i∈ord,i<l.length
 dst:∀ (i:Nat) (o:Oper),l[i]?=some o→o.dst.all (·<n)=true
 back:∀ (i:Nat) (o:Oper),l[i]?=some o→∀ j∈bindsOn o,j<i
 ancs:∀ (i:Nat) (o:Oper),l[i]?=some o→∀ a∈anc.getD i [],a∈bindsOn o∨∃ c∈bindsOn o,a∈anc.getD c []
 wild:∀ j∈ws,∀ i,i<l.length→i=j∨befo ord i j=true∨j∈anc.getD i []∨i=i0
 once:∀ (i:Nat) (o:Oper) (k:Nat) (p:Oper) (t:Tmp),l[i]?=some o→l[k]?=some p→o.dst=some t→p.dst=some t→k=i
 see:∀ (i:Nat) (o:Oper) (k:Nat) (p:Oper) (t:Tmp),l[i]?=some o→l[k]?=some p→p.dst=some t→t∈Oper.sees l o→k=i∨(befo ord k i=true∧k∈anc.getD i [])∨(befo ord k i=false∧i∈anc.getD k [])
 free:i0∈ws
theorem FlowEF.of {n:Nat} {l:List Oper} {ord ws:List Nat} {anc:List (List Nat)} {i0:Nat} (h:flowEF n l ord ws anc i0=true):FlowEF n l ord ws anc i0:=by
 unfold flowEF at h
 simp only [Bool.and_eq_true] at h
 obtain ⟨⟨⟨⟨⟨⟨⟨_,h2⟩,h3⟩,h7⟩,h4⟩,h5⟩,h6⟩,h8⟩:=h
 have hmem:∀ i,i<l.length→i∈ord:=fun i hi=>by simpa using all_range h2 hi
 refine ⟨by simpa using h3,hmem,fun i hi=>by simpa [Nat.blt_eq] using List.all_eq_true.1 h7 i hi,fun i o ho=>?_,fun i o ho j hj=>?_,fun i o ho a ha=>?_,fun j hj i hi=>?_,fun i o k p t ho hp e1 e2=>?_,fun i o k p t ho hp e1 e2=>?_,by simpa using h8⟩
 ·have:=Yd h4 ho
  simp only [Bool.and_eq_true] at this
  exact this.1.1
 ·have:=Yd h4 ho
  simp only [Bool.and_eq_true,List.all_eq_true,decide_eq_true_eq] at this
  exact this.1.2 j hj
 ·have:=Yd h4 ho
  simp only [Bool.and_eq_true,List.all_eq_true] at this
  have:=this.2 a ha
  simp only [Bool.or_eq_true,List.contains_iff_mem,List.any_eq_true] at this
  exact this
 ·have:=all_range (List.all_eq_true.1 h5 j hj) hi
  simp only [Bool.or_eq_true,beq_iff_eq,List.contains_iff_mem] at this
  rcases this with ((q|q)|q)|q
  ·exact Or.inl q
  ·exact Or.inr (Or.inl q)
  ·exact Or.inr (Or.inr (Or.inl q))
  exact Or.inr (Or.inr (Or.inr q))
 ·have:=Yd (Yd h6 ho) hp
  simp only [Bool.and_eq_true,Bool.or_eq_true,beq_iff_eq] at this
  rcases this.1 with (q|q)|q
  ·exact q
  ·simp [e1] at q
  simp [e1,e2] at q
 have:=(Bool.and_eq_true _ _ ▸ Yd (Yd h6 ho) hp).2
 simp only [e1,Bool.or_eq_true,beq_iff_eq,Bool.not_eq_true'] at this
 rcases this with (q|q)|q
 ·simp [e2] at q
 ·exact Or.inl q
 split at q
 ·rename_i hb;exact Or.inr (Or.inl ⟨hb,by simpa using q⟩)
 rename_i hb
 by_cases e:k=i
 ·exact Or.inl e
 exact Or.inr (Or.inr ⟨by simpa using hb,by simpa using q⟩)
section
variable {P:Program} {n:Nat} {l:List Oper} {ord ws:List Nat} {anc:List (List Nat)} {QQ:Sl→Mem→Prop} {al:Sl} {i0:Nat} {cs0:List AV}
variable {M:Mem} {L:List (Nat × Nat)} {o:Oper}
theorem EOpsF.d {v:AV} {i:Nat} (d:Nat) (fp:Option Nat) (hz:Nat.beq i i0=false) (hi:l[i]?=some o) (hw:ws.contains i=false) (hg:o.guard=none) (hd:o.dst=some d) (hfp:fp.all (fun k=>Nat.blt k M.length)=true) (h:OpT P o (al.only (Oper.tmps o)) (fpm M fp) (fun v' M'=>v'=v∧M'=fpm M fp)) (q:EOpsF P l ws anc i0 cs0 QQ ord ((d,v)::al) M ((fp.toList.map fun k=>(i,k))++L)):EOpsF P l ws anc i0 cs0 QQ (i::ord) al M L :=
 ⟨o,hi,by rw [if_neg (Nat.ne_of_beq_eq_false hz),if_neg (by rw [hw];simp)];exact ⟨fp,v,hfp,by unfold DStep;rw [hg];exact h,by rw [hd];exact q⟩⟩
theorem EOpsF.w {i:Nat} {r:Res} (k:Nat) (hz:Nat.beq i i0=false) (hi:l[i]?=some o) (hw:ws.contains i=true) (hg:o.guard=none) (hr:M[k]?=some r) (hL:(L.all fun x=>x.2 != k ||(anc.getD i []).contains x.1)=true) (h:OpT P o (al.only (Oper.tmps o)) [r] (fun v M'=>∃ r',M'=[r']∧EOpsF P l ws anc i0 cs0 QQ ord (al.put o.dst v) (M.set k r') L)):EOpsF P l ws anc i0 cs0 QQ (i::ord) al M L :=
 ⟨o,hi,by rw [if_neg (Nat.ne_of_beq_eq_false hz),if_pos hw];exact ⟨hg,.inl ⟨k,r,hr,hL,h⟩⟩⟩
theorem EOpsF.nw {i:Nat} (hz:Nat.beq i i0=false) (hi:l[i]?=some o) (hw:ws.contains i=true) (hg:o.guard=none) (h:OpT P o (al.only (Oper.tmps o)) [] (fun v M'=>∃ r',M'=[r']∧EOpsF P l ws anc i0 cs0 QQ ord (al.put o.dst v) (M++[r']) L)):EOpsF P l ws anc i0 cs0 QQ (i::ord) al M L :=
 ⟨o,hi,by rw [if_neg (Nat.ne_of_beq_eq_false hz),if_pos hw];exact ⟨hg,.inr (OpT.mono h (by rintro v M' ⟨r',rfl,h⟩;exact h))⟩⟩
theorem EOpsF.free {i d:Nat} (hz:i=i0) (hi:l[i]?=some o) (hd:o.dst=some d) (q:∀ b,EOpsF P l ws anc i0 cs0 QQ ord ((d,.ptr b 0)::al) (M++[.loc b cs0]) L):EOpsF P l ws anc i0 cs0 QQ (i::ord) al M L :=
 ⟨o,hi,by rw [if_pos hz,hd];exact q⟩

end
theorem Me.cellss_app' (a b:List Me):Me.cellss (a++b)=Me.cellss a++Me.cellss b:=by simp [Me.cellss]
theorem Le.own_less {u:Value} {m:Nat} {es es':List (List AV)} (h:Less es es'):Le (.own u m es) (.own u m es'):=fun F x k=>by
 cases k with|own _ k=>exact .own _ (Le.seq h _ _ k)
theorem Less.snoc {a b:List AV} (h:Les a b) (hl:a.length=b.length):∀ es:List (List AV),Less (es++[a]) (es++[b])
 | []=>.cons h hl .nil
 | _::es=>.cons (Yw _) rfl (Less.snoc h hl es)
theorem preds_snoc {u:Value} (acc:List Pr) (ct vt:ByteArray):Le (.own u 5 (Pr.cellss acc++[[.val (.string ct),.val (.int .i64 1),.val (.string vt),.val (.int .i64 0),.val (.slice none 0 0)]])) (.own u 5 (Pr.cellss (acc++[Pr.mk ct (Ty.mk 1 vt 0 [])]))):=by
 rw [show Pr.cellss (acc++[Pr.mk ct (Ty.mk 1 vt 0 [])])=Pr.cellss acc++[[.val (.string ct),.val (.int .i64 1),.val (.string vt),.val (.int .i64 0),.seq 4 []]] by simp [Pr.cellss,Pr.cells,Ty.cells,Ty.cellss]]
 exact Le.own_less (Less.snoc (Yx (Yv _) (Yx (Yv _) (Yx (Yv _) (Yx (Yv _) (Yx (Le.nil _) (Yw _)))))) Y _)
abbrev zIn:List AV:=[.val (.string kE),.val (.int .i64 0),.val (.string kE),.val (.int .i64 0),.val (.slice none 0 0),.val (.slice none 0 0),.val (.slice none 0 0),.val (.int .i64 0)]
def patK (a:Int) (of:ByteArray) (i:Nat):Pa:=if of=kE then .mk 1 kE 0 [] a else .mk 2 (of++num i) 0 [] a
def patL (a:Int) (of:ByteArray):Nat→List Pa
 | 0=>[]
 | i+1=>patL a of i++[patK a of i]
theorem patL_law (a:Int) (of:ByteArray):∀ n,(argsK num of n).map (apatX a)=patL a of n
 | 0=>rfl
 | i+1=>by
  rw [argsK,patL,List.map_append,patL_law a of i]
  congr 1
  unfold argK patK
  by_cases h:of=kE
  ·rw [if_pos h,if_pos h];rfl
  rw [if_neg h,if_neg h];rfl
theorem patL_len (a:Int) (of:ByteArray):∀ n,(patL a of n).length=n
 | 0=>rfl
 | i+1=>by rw [patL,List.length_append,patL_len a of i];rfl
theorem patK_len (a:Int) (of:ByteArray) (i:Nat):(patK a of i).cells.length=5:=by
 unfold patK
 split <;> simp only [Pa.cells,List.length_cons,List.length_nil]
def patX (a:Int) (c of:ByteArray) (n:Nat):Pa:=.mk 3 c 0 (patL a of n) a
theorem patX_law (a:Int) (c of:ByteArray) (n:Nat):paX a (patO num c of n)=patX a c of n:=by
 unfold patX
 rw [← patL_law]
 rfl
abbrev zPaC:List AV:=[.val (.int .i64 0),.val (.string kE),.val (.int .i64 0),.val (.slice none 0 0),.val (.int .i64 0)]
theorem m_pattern_c (d:Da) (a:Int) (c:Cn) (of:ByteArray) (ho:of.size≤1000) (hn:c.ts.length≤1000000):PCall Try.prog 24 [.agg (mkC d a),.agg c.cells,.val (.string of)] (.agg (patX a c.s of c.ts.length).cells):=by
 obtain ⟨ds,dps,dcs,ddv,dp⟩:=d
 obtain ⟨cs,cts,cp⟩:=c
 have hl:=Ty.cellss_len cts
 have HA:=m_arg_c of ho
 replace hn:cts.length≤1000000:=hn
 have hz:=num_len
 show PCall Try.prog 24 _ (.agg (patX a cs of cts.length).cells)
 unfold mkC patX at *
 simp only [Da.cells,List.cons_append,List.nil_append] at *
 refine Zc Try.func24 Y (by kernel_rfl) Y (Xb Y) ?_
 refine Qv ?_
 refine Qco ?_
 refine Qcf ?_
 refine QaB ?_;intro b6
 refine QG ?_
 refine Ql ?_
 refine Ql ?_
 refine Zb 14 Y Y Y (Zi (ns:=[0,1,4]) (xs:=[.const (.int .i64 3),.tmp 11,.tmp 13]) Y tz_52 Y tfl_52 Y Y Y Y ?_)
 refine QaB ?_;intro b7
 refine Qbo ?_
 refine QL ?_
 refine Qaw ?_
 refine QY ?_;intro n17
 refine QbF ?_
 refine c_ownNew 52 5 ?_
 apply Yn (rg [(0,2),(4,2),(8,9),(18,21)]) (σ:=Nat × Value) (fun zz=>match zz with|(i,u)=>[(18,.val (.int .i64 i))]) (fun zz=>match zz with|(i,u)=>[.loc b7 [.val (.int .i64 3),.val (.string cs),.val (.int .i64 0),.own u 5 (Pa.cellss (patL a of i)),.val (.int .i64 a)],.loc b6 zPaC,.own 52 5 u]) (fun zz=>match zz with|(i,u)=>i≤cts.length) (fun zz=>match zz with|(i,u)=>cts.length - i) ((0,.slice none 0 0))
 ·repeat' (first|exact Xe|apply Xc rfl|apply Xd rfl)
 ·exact Nat.zero_le _
 ·exact by6
 ·exact (MLe.loc _ (Yx (Yv _) (Yx (Yv _) (Yx (Yv _) (Yx (Le.nilOwn 5) (Yw _))))) (Yu Y))
 rintro ⟨i,u⟩ hI
 try dsimp only [List.cons_append,List.nil_append] at hI ⊢
 have hi:=hI
 have hpl:(Pa.cellss (patL a of i)).length=i:=by rw [Pa.cellss_len,patL_len]
 refine QbG ?_;intro c19 h19
 refine QL ?_
 obtain ⟨rfl,g19⟩|⟨rfl,g19⟩:=Za h19
 ·refine QN ?_
  obtain rfl:i=cts.length:=by omega
  refine Qj ?_
  refine Qbg ?_
  refine Qdj ?_
  refine Qo ?_
  exact Zl (i:=1) Y Y Y ta_52 Y by4 (Yr _) ⟨Y,Y⟩
 refine Qaf ?_
 refine Qs ?_
 refine Qd ?_
 refine Qaw ?_
 refine Zb 23 Y Y Y (Zi (ns:=[0,4]) (xs:=[.const (.int .i64 1),.tmp 22]) Y tz_52 Y tfl_52 Y Y Y Y ?_)
 refine QaB ?_;intro b9
 refine Qbo ?_
 refine Q2 ?_
 refine QcJ ?_;intro c25 h25
 refine Qa ?_
 obtain ⟨rfl,g25⟩|⟨rfl,g25⟩:=Za h25
 ·refine QF ?_
  refine Qbw ?_
  refine Qao ?_
  refine Qbg ?_
  refine Qei ?_
  refine Qej ?_
  intro u36
  refine Qx ?_
  refine Qek ?_
  refine Q0 ?_
  refine Qa1 ?_
  refine ⟨(i+1,u36),by show i+1≤cts.length;omega,by show cts.length - (i+1)<cts.length - i;omega,by6,Yt _ (MLe.loc _ (Yx (Yv _) (Yx (Yv _) (Yx (Yv _) (Yx (Le.own_lessA ?_) (Yw _))))) (Yu Y))⟩
  rw [patL,Pa.cellss_app']
  refine Less.snoc ?_ (by rw [patK_len];rfl) _
  unfold patK
  first
  | rw [if_neg g25];(try rw [hnum]);exact by2 
  | rw [if_pos (Classical.not_not.1 g25)];exact by2 
  | rw [if_pos g25];exact by2 
 refine Qk ?_
 have HAi:=HA i by16
 have hzi:=hz i
 generalize hnum:num i=nu at *
 refine Yc [0,1,2,3,4,5,6] [6] [[],[],[0,1],[],[3],[0,1,2,3,4],[0,1,2,3,4,5]] tmix Y ?_
 refine Qr ?_
 refine Qr ?_
 refine Zf 28 (none) (i:=2) Y Y Y Y Y (Zd (xs:=[.tmp 26,.tmp 27]) Y Y (HAi) by3 ⟨Y,Y⟩) ?_
 refine Qa2 ?_
 refine Zf 31 (none) (i:=5) Y Y Y Y Y (Zi (ns:=[0,1,4]) (xs:=[.const (.int .i64 2),.tmp 28,.tmp 30]) Y tz_52 Y tfl_52 Y Y Y Y ⟨Y,Y⟩) ?_
 refine Zz 0 (i:=6) Y Y Y Y Y (Zm (cs':=[_,_,_,_,_]) (i:=0) Y ts_52 Y Y Y Y Y (Xb Y) Y ⟨_,Y,?_⟩)
 show AGo _ _ _ _ _ _ _
 refine Qe ?_
 refine Qbw ?_
 refine Qao ?_
 refine Qbg ?_
 refine Qei ?_
 refine Qej ?_
 intro u36
 refine Qx ?_
 refine Qek ?_
 refine Q0 ?_
 refine Qa1 ?_
 refine ⟨(i+1,u36),by show i+1≤cts.length;omega,by show cts.length - (i+1)<cts.length - i;omega,by6,Yt _ (MLe.loc _ (Yx (Yv _) (Yx (Yv _) (Yx (Yv _) (Yx (Le.own_lessA ?_) (Yw _))))) (Yu Y))⟩
 rw [patL,Pa.cellss_app']
 refine Less.snoc ?_ (by rw [patK_len];rfl) _
 unfold patK
 first
 | rw [if_neg g25];(try rw [hnum]);exact by2 
 | rw [if_pos (Classical.not_not.1 g25)];exact by2 
 | rw [if_pos g25];exact by2 
def twoX (a:Int) (f:ByteArray) (i:Nat):Ex:=apE a (namE 3 f a) [namE 3 (kX++num i) a,namE 3 (kY++num i) a]
theorem m_pair_c (d:Da) (a:Int) (f:ByteArray) (i:Nat) (hi:i≤1000000000):PCall Try.prog 28 [.agg (mkC d a),.val (.string f),.val (.int .i64 i)] (.agg (twoX a f i).cells):=by
 have HX:=m_arg_c kX by15 i hi
 have HY:=m_arg_c kY by15 i hi
 have HNx:=m_name_c d a (kX++num i)
 have HNy:=m_name_c d a (kY++num i)
 have HP:=m_apply_c d a f [namE 3 (kX++num i) a,namE 3 (kY++num i) a]
 obtain ⟨ds,dps,dcs,ddv,dp⟩:=d
 unfold twoX
 obtain ⟨⟨rk,rs,rn,⟨rtk,rts,rtn,rtl⟩,rks,ral,rbs,rp⟩,hr⟩:∃ r,apE a (namE 3 f a) [namE 3 (kX++num i) a,namE 3 (kY++num i) a]=r:=⟨_,rfl⟩
 rw [hr] at HP ⊢
 clear hr
 generalize kX++num i=nx at *
 generalize kY++num i=ny at *
 unfold mkC at *
 simp only [Da.cells,List.cons_append,List.nil_append] at *
 refine Zc Try.func28 Y (by kernel_rfl) Y (Xb Y) ?_
 refine Qb7 ?_;intro b6
 refine QL ?_
 refine Yc [0,1,2,3,4,5,6,7,8,9,10,11,12] [12] [[],[],[],[],[3],[2,3,4],[],[],[2,3,4,5,7],[2,3,4,5,6,7,8],[2,3,4,5,6,7,8,9],[0,1,2,3,4,5,6,7,8,9,10],[0,1,2,3,4,5,6,7,8,9,10,11]] tmix Y ?_
 refine Qaq ?_
 refine Qr ?_
 refine Qaq ?_
 refine Qr ?_
 refine Zf 11 (none) (i:=4) Y Y Y Y Y (Zd (xs:=[.const (.string ⟨#[120]⟩),.tmp 10]) Y Y (HX) by3 ⟨Y,Y⟩) ?_
 refine Zf 12 (none) (i:=5) Y Y Y Y Y (Zd (xs:=[.tmp 9,.tmp 11]) Y Y (HNx) by3 ⟨Y,Y⟩) ?_
 refine Qaq ?_
 refine Qr ?_
 refine Zf 15 (none) (i:=8) Y Y Y Y Y (Zd (xs:=[.const (.string ⟨#[121]⟩),.tmp 14]) Y Y (HY) by3 ⟨Y,Y⟩) ?_
 refine Zf 16 (none) (i:=9) Y Y Y Y Y (Zd (xs:=[.tmp 13,.tmp 15]) Y Y (HNy) by3 ⟨Y,Y⟩) ?_
 refine Zf 17 (none) (i:=10) Y Y Y Y Y (Ze (xs:=[.tmp 12,.tmp 16]) Yp Y Y Y Y Y Y (Xb Y) ⟨Y,Y⟩) ?_
 refine Zf 18 (none) (i:=11) Y Y Y Y Y (Zd (xs:=[.tmp 7,.tmp 8,.tmp 17]) Y Y (HP) by3 ⟨Y,Y⟩) ?_
 refine Qce ?_
 show AGo _ _ _ _ _ _ _
 refine QV ?_
 exact Zl (i:=0) Y Y Y Ya Y by4 (Yr _) ⟨Y,Y⟩
theorem Le.own_seqL {u:Value} {m:Nat} {es es':List (List AV)} (h:Less es es'):Le (.own u m es) (.seq m es'):=fun F x k=>Le.seq h _ _ (Le.own _ _ _ F x k)
theorem twoX_law (a:Int) (f:ByteArray) (i:Nat):opX a (twoK num f i)=twoX a f i:=rfl
/- lexical -/
def lexX (a:Int):Nat→Nat→Ex
 | 0,k=>twoX a kCmp k
 | r+1,k=>.mk 8 kE 0 ty0 [twoX a kCmp k] [.mk (.mk 3 kEQ 0 [] a) (lexX a r (k+1)),.mk (.mk 2 kR 0 [] a) (namE 3 kR a)] [] a
theorem lexX_law (a:Int):∀ r k,(ordD num r k).ex a=lexX a r k
 | 0,k=>rfl
 | r+1,k=>by
  rw [lexX,← lexX_law a r (k+1),ordD,Dx.ex,twoX_law]
  rfl
def orderX (a:Int) (n:Nat):Ex:=if n=0 then namE 4 kEQ a else lexX a (n - 1) 0
theorem orderX_law (a:Int) (n:Nat):(orderD num n).ex a=orderX a n:=by
 unfold orderD orderX
 by_cases h:n=0
 ·rw [if_pos h,if_pos h];rfl
 rw [if_neg h,if_neg h,lexX_law]
theorem m_lex_c (d:Da) (a:Int) (c:Cn):∀ r k,c.ts.length=k+1+r→c.ts.length≤1000000→PCall Try.prog 29 [.agg (mkC d a),.agg c.cells,.val (.int .i64 k)] (.agg (lexX a r k).cells)
 | 0,k,h,hb=>by
  have HP:=m_pair_c d a kCmp k by16
  rw [lexX]
  obtain ⟨⟨rk,rs,rn,⟨rtk,rts,rtn,rtl⟩,rks,ral,rbs,rp⟩,hr⟩:∃ r,twoX a kCmp k=r:=⟨_,rfl⟩
  rw [hr] at HP ⊢
  clear hr
  obtain ⟨ds,dps,dcs,ddv,dp⟩:=d
  obtain ⟨cs,cts,cp⟩:=c
  replace h:cts.length=k+1:=h
  have hl:=Ty.cellss_len cts
  unfold mkC at *
  simp only [Da.cells,List.cons_append,List.nil_append] at *
  refine QdJ ?_
  refine Qv ?_
  refine Qco ?_
  refine Qcf ?_
  refine QH ?_;intro b6
  refine Qb5 ?_
  refine Qaw ?_
  refine QY ?_;intro n12
  refine Qi ?_;intro c13 h13
  refine Qd ?_
  obtain ⟨rfl,g13⟩|⟨rfl,g13⟩:=Za h13
  ·refine QP ?_
   refine Qs ?_
   refine Ql ?_
   refine QY ?_;intro n20
   refine QT ?_
   refine Qi ?_;intro c22 h22
   refine Qd ?_
   obtain ⟨rfl,g22⟩|⟨rfl,g22⟩:=Za h22
   ·omega
   refine Q7 ?_
   refine Qcd ?_
   refine Qb ?_
   refine Zb 25 Y Y Y (Zd (xs:=[.tmp 23,.const (.string ⟨#[99,111,109,112,97,114,101]⟩),.tmp 24]) Y Y (HP) by3 ?_)
   refine Qb6 ?_
   exact Zl (i:=0) Y Y Y Ya Y by4 (Yr _) ⟨Y,Y⟩
  omega
 | r+1,k,h,hb=>by
  have IH:=m_lex_c d a c r (k+1) by16 hb
  have HP:=m_pair_c d a kCmp k by16
  have HR:=m_name_c d a kR
  have HC:=m_cases_c d a (twoX a kCmp k) [.mk (.mk 3 kEQ 0 [] a) (lexX a r (k+1)),.mk (.mk 2 kR 0 [] a) (namE 3 kR a)]
  rw [lexX]
  obtain ⟨⟨rk,rs,rn,⟨rtk,rts,rtn,rtl⟩,rks,ral,rbs,rp⟩,hr⟩:∃ r,twoX a kCmp k=r:=⟨_,rfl⟩
  rw [hr] at HP HC ⊢
  clear hr
  obtain ⟨⟨yk,ys,yn,⟨ytk,yts,ytn,ytl⟩,yks,yal,ybs,yp⟩,hy⟩:∃ y,lexX a r (k+1)=y:=⟨_,rfl⟩
  rw [hy] at IH HC ⊢
  clear hy
  obtain ⟨ds,dps,dcs,ddv,dp⟩:=d
  obtain ⟨cs,cts,cp⟩:=c
  replace h:cts.length=k+1+(r+1):=h
  replace hb:cts.length≤1000000:=hb
  have hl:=Ty.cellss_len cts
  unfold mkC at *
  simp only [Da.cells,List.cons_append,List.nil_append] at *
  refine QdJ ?_
  refine Qv ?_
  refine Qco ?_
  refine Qcf ?_
  refine QH ?_;intro b6
  refine Qb5 ?_
  refine Qaw ?_
  refine QY ?_;intro n12
  refine Qi ?_;intro c13 h13
  refine Qd ?_
  obtain ⟨rfl,g13⟩|⟨rfl,g13⟩:=Za h13
  ·refine QP ?_
   refine Qs ?_
   refine Ql ?_
   refine QY ?_;intro n20
   refine QT ?_
   refine Qi ?_;intro c22 h22
   refine Qd ?_
   obtain ⟨rfl,g22⟩|⟨rfl,g22⟩:=Za h22
   ·refine QaD ?_
    refine QaU ?_
    refine QE ?_
    refine Yc [0,1,2,3,4,5,6,7,8,9,10] [9,10] [[],[0],[0,1],[],[],[],[5],[3,4,5,6],[0,1,2,3,4,5,6,7],[],[0,1,2,3,4,5,6,7,8,9]] tmix Y ?_
    refine Qa2 ?_
    refine Zf 28 (none) (i:=2) Y Y Y Y Y (Zi (ns:=[0,1,4]) (xs:=[.const (.int .i64 3),.const (.string ⟨#[69,81]⟩),.tmp 27]) (cs':=[_,_,_,_,_]) Y tz_52 Y tfl_52 Y Y Y Y ⟨Y,Y⟩) ?_
    refine Qaq ?_
    refine Zf 30 (none) (i:=4) Y Y Y Y Y (Yb (cs':=[_,_,_]) Y ta_43 Y Y Y ⟨Y,Y⟩) ?_
    refine Qr ?_
    refine Zf 32 (none) (i:=6) Y Y Y Y Y (op_add Y Y Y (IntWalk.i64_in _ by16) ⟨Y,Y⟩) ?_
    refine Zf 33 (none) (i:=7) Y Y Y Y Y (Zd (xs:=[.tmp 29,.tmp 30,.tmp 32]) Y Y (IH) by3 ⟨Y,Y⟩) ?_
    refine Zf 34 (none) (i:=8) Y Y Y Y Y (Zi (ns:=[0,1]) (xs:=[.tmp 28,.tmp 33]) (cs':=[_,_,_,_,_,_,_,_,_,_,_,_,_,_,_,_]) Y tz_54 Y tfl_54 Y Y Y Y ⟨Y,Y⟩) ?_
    refine EOps.nw (i:=9) Y Y Y (op_alloce (cs':=[_,_,_,_,_,_,_,_,_,_,_,_,_,_,_,_]) Y tz_54 Y Y (fun b7=>⟨_,Y,?_⟩))
    refine Zz 1 (i:=10) Y Y Y Y Y (Zm (cs':=[_,_,_,_,_,_,_,_,_,_,_,_,_,_,_,_]) (i:=0) Y ts_54 Y Y Y Y Y (Xb Y) Y ⟨_,Y,?_⟩)
    show AGo _ _ _ _ _ _ _
    refine QaP ?_
    refine Yc [0,1,2,3,4,5,6,7] [6,7] [[],[0],[0,1],[],[3],[0,1,2,3,4],[],[0,1,2,3,4,5,6]] tmix Y ?_
    refine Qa2 ?_
    refine Zf 37 (none) (i:=2) Y Y Y Y Y (Zi (ns:=[0,1,4]) (xs:=[.const (.int .i64 2),.const (.string ⟨#[114]⟩),.tmp 36]) (cs':=[_,_,_,_,_]) Y tz_52 Y tfl_52 Y Y Y Y ⟨Y,Y⟩) ?_
    refine Qaq ?_
    refine Zf 39 (none) (i:=4) Y Y Y Y Y (Zd (xs:=[.tmp 38,.const (.string ⟨#[114]⟩)]) Y Y (HR) by3 ⟨Y,Y⟩) ?_
    refine Zf 40 (none) (i:=5) Y Y Y Y Y (Zi (ns:=[0,1]) (xs:=[.tmp 37,.tmp 39]) (cs':=[_,_,_,_,_,_,_,_,_,_,_,_,_,_,_,_]) Y tz_54 Y tfl_54 Y Y Y Y ⟨Y,Y⟩) ?_
    refine EOps.nw (i:=6) Y Y Y (op_alloce (cs':=[_,_,_,_,_,_,_,_,_,_,_,_,_,_,_,_]) Y tz_54 Y Y (fun b8=>⟨_,Y,?_⟩))
    refine Zz 2 (i:=7) Y Y Y Y Y (Zm (cs':=[_,_,_,_,_,_,_,_,_,_,_,_,_,_,_,_]) (i:=0) Y ts_54 Y Y Y Y Y (Xb Y) Y ⟨_,Y,?_⟩)
    show AGo _ _ _ _ _ _ _
    refine QaP ?_
    refine Yc [0,1,2,3,4,5,6,7,8] [8] [[],[],[],[1,2],[],[],[4,5],[0,1,2,3,4,5,6],[0,1,2,3,4,5,6,7]] tmix Y ?_
    refine Qb8 ?_
    refine Qr ?_
    refine Zf 44 (none) (i:=3) Y Y Y Y Y (Zd (xs:=[.tmp 42,.const (.string ⟨#[99,111,109,112,97,114,101]⟩),.tmp 43]) Y Y (HP) by3 ⟨Y,Y⟩) ?_
    refine Zf 45 (some 1) (i:=4) Y Y Y Y Y (Zx (cs':=[_,_,_,_,_,_,_,_,_,_,_,_,_,_,_,_]) (i:=0) Y ta_54 Y Y Y Y ⟨Y,Y⟩) ?_
    refine Zf 46 (some 2) (i:=5) Y Y Y Y Y (Zx (cs':=[_,_,_,_,_,_,_,_,_,_,_,_,_,_,_,_]) (i:=0) Y ta_54 Y Y Y Y ⟨Y,Y⟩) ?_
    refine Zf 47 (none) (i:=6) Y Y Y Y Y (Ze (xs:=[.tmp 45,.tmp 46]) el_45 Y Y Y Y Y Y (Xb Y) ⟨Y,Y⟩) ?_
    refine Zf 48 (none) (i:=7) Y Y Y Y Y (Zd (xs:=[.tmp 41,.tmp 44,.tmp 47]) Y Y (HC) (by repeat' (first|exact Yw _|refine Yx ?_ ?_|exact Yv _|exact Le.own _ _ _|exact Le.nil _|refine Le.agg ?_|refine Le.own_seqL ?_|refine Le.seq ?_|exact Less.refl _|exact Less.nil|refine Less.cons ?_ Y ?_)) ⟨Y,Y⟩) ?_
    refine Qce ?_
    show AGo _ _ _ _ _ _ _
    refine QV ?_
    exact Zl (i:=0) Y Y Y Ya Y by4 (Yr _) ⟨Y,Y⟩
   omega
  omega
theorem m_order_c (d:Da) (a:Int) (c:Cn) (hb:c.ts.length≤1000000):PCall Try.prog 29 [.agg (mkC d a),.agg c.cells,.val (.int .i64 0)] (.agg (orderX a c.ts.length).cells):=by
 unfold orderX
 by_cases h:c.ts.length=0
 ·rw [if_pos h]
  have HC:=m_con_c d a kEQ
  obtain ⟨ds,dps,dcs,ddv,dp⟩:=d
  obtain ⟨cs,cts,cp⟩:=c
  replace h:cts.length=0:=h
  have hl:=Ty.cellss_len cts
  unfold mkC at *
  simp only [Da.cells,List.cons_append,List.nil_append] at *
  refine QdJ ?_
  refine Qv ?_
  refine Qco ?_
  refine Qcf ?_
  refine QH ?_;intro b6
  refine Qb5 ?_
  refine Qaw ?_
  refine QY ?_;intro n12
  refine Qi ?_;intro c13 h13
  refine Qd ?_
  obtain ⟨rfl,g13⟩|⟨rfl,g13⟩:=Za h13
  ·omega
  refine Q7 ?_
  refine Qcd ?_
  refine Zb 15 Y Y Y (Zd (xs:=[.tmp 14,.const (.string ⟨#[69,81]⟩)]) Y Y (HC) by3 ?_)
  refine Qb6 ?_
  exact Zl (i:=0) Y Y Y Ya Y by4 (Yr _) ⟨Y,Y⟩
 rw [if_neg h]
 exact m_lex_c d a c _ 0 by16 hb
/- eq -/
def sufX (a:Int):Nat→Nat→Ex
 | i,0=>twoX a kEqN i
 | i,r+1=>opE 10 [twoX a kEqN i,sufX a (i+1) r] a
def eqF:Nat→Nat→List Opd
 | _,0=>[]
 | i,r+1=>twoK num kEqN (i+1)::eqF (i+1) r
theorem eqF_snoc:∀ r i,eqF i (r+1)=eqF i r++[twoK num kEqN (i+r+1)]
 | 0,i=>rfl
 | r+1,i=>by
  rw [eqF,eqF_snoc r (i+1)]
  show _=twoK num kEqN (i+1)::eqF (i+1) r++_
  rw [show i+1+r+1=i+(r+1)+1 by omega]
  rfl
theorem eqL_F:∀ n,eqL num n=eqF 0 n
 | 0=>rfl
 | n+1=>by rw [eqL,eqL_F n,eqF_snoc,show 0+n+1=n+1 by omega]
theorem sufX_law (a:Int):∀ r i,chX a kAA (twoK num kEqN i) (eqF i r)=sufX a i r
 | 0,i=>rfl
 | r+1,i=>by
  rw [eqF,sufX,← sufX_law a r (i+1),chX,binE,if_pos rfl,twoX_law]
def eqV (a:Int) (n j:Nat):Ex:=if j=n then namE 4 kTrue a else sufX a j (n - 1 - j)
theorem eqV_law (a:Int) (n:Nat):(eqE num n).ex a=eqV a n 0:=by
 unfold eqV
 cases n with
 | zero=>rfl
 | succ n =>
  rw [if_neg by16,eqE,Dx.ex,eqL_F,sufX_law]
  rfl
def eqXX (a:Int) (c:ByteArray) (n cons:Nat):Ex:=.mk 8 kE 0 ty0 [namE 3 kY a] (.mk (patX a c kY n) (eqV a n 0)::(if 1<cons then [.mk (.mk 1 kE 0 [] a) (namE 4 kFalse a)] else [])) [] a
theorem eqXX_law (a:Int) (c:ByteArray) (n cons:Nat):(eqD num c n cons).ex a=eqXX a c n cons:=by
 unfold eqD eqXX
 rw [Dx.ex,eqV_law,patX_law]
 by_cases h:1<cons
 ·rw [if_pos h,if_pos h];rfl
 rw [if_neg h,if_neg h];rfl
theorem eqV_and (a:Int) {n j:Nat} (h:j+1<n):eqV a n j=opE 10 [twoX a kEqN j,eqV a n (j+1)] a:=by
 obtain ⟨r,rfl⟩:∃ r,n=j+1+(r+1):=⟨n - j - 2,by omega⟩
 unfold eqV
 rw [if_neg by16,if_neg by16,show j+1+(r+1) - 1 - j=r+1 by omega,show j+1+(r+1) - 1 - (j+1)=r by omega]
 rfl
theorem eqV_one (a:Int) {n j:Nat} (h:j+1=n):eqV a n j=twoX a kEqN j:=by
 subst h
 unfold eqV
 rw [if_neg by16,show j+1 - 1 - j=0 by omega]
 rfl
theorem m_eq_c (d:Da) (a:Int) (i:Nat) (c:Cn) (hc:d.cs[i]?=some c) (hn:c.ts.length≤1000000):PCall Try.prog 12 [.agg (mkC d a),.val (.int .i64 i)] (.agg (eqXX a c.s c.ts.length d.cs.length).cells):=by
 have HT:=m_con_c d a kTrue
 have HF:=m_con_c d a kFalse
 have HP:=fun k h=>m_pair_c d a kEqN k h
 have HY:=m_name_c d a kY
 have HPT:=m_pattern_c d a c kY by15 hn
 have HC:=fun l=>m_cases_c d a (namE 3 kY a) l
 obtain ⟨ds,dps,dcs,ddv,dp⟩:=d
 obtain ⟨cs,cts,cp⟩:=c
 replace hn:cts.length≤1000000:=hn
 replace hc:dcs[i]?=some (Cn.mk cs cts cp):=hc
 replace HPT:PCall Try.prog 24 [.agg (mkC (Da.mk ds dps dcs ddv dp) a),.agg (Cn.mk cs cts cp).cells,.val (.string kY)] (.agg (patX a cs kY cts.length).cells):=HPT
 have hl:=Ty.cellss_len cts
 have hlc:=Cn.cellss_len dcs
 have hcc:=Cn.cellss_get hc
 obtain ⟨r,hr⟩:∃ r,eqXX a cs cts.length dcs.length=r:=⟨_,rfl⟩
 show PCall Try.prog _ _ (.agg (eqXX a cs cts.length dcs.length).cells)
 rw [hr]
 unfold eqXX patX at hr
 unfold mkC patX at *
 simp only [Da.cells,List.cons_append,List.nil_append] at *
 refine Zc Try.func12 Y (by kernel_rfl) Y (Xb Y) ?_
 refine Qb7 ?_;intro b4
 refine QG ?_
 refine QaS ?_
 refine Qaa ?_
 refine Qdm ?_
 refine Qcg ?_
 refine Qch ?_;intro b5
 refine Qci ?_
 refine QG ?_
 refine Qcd ?_
 refine Zb 17 Y Y Y (Zd (xs:=[.tmp 16,.const (.string ⟨#[84,114,117,101]⟩)]) Y Y (HT) by3 ?_)
 refine QH ?_;intro b6
 refine QS ?_
 refine QL ?_
 refine QaV ?_
 refine QY ?_;intro n20
 refine QT ?_
 refine Qbj ?_
 apply Yn (rg [(0,2),(3,1),(7,2),(10,32)]) (σ:=Nat × Ex) (fun zz=>match zz with|(j,x)=>[(7,.val (.int .i64 ((j:Int) - 1)))]) (fun zz=>match zz with|(j,x)=>[.loc b6 x.cells,.loc b5 (Cn.mk cs cts cp).cells,.loc b4 zEx]) (fun zz=>match zz with|(j,x)=>j≤cts.length∧eqV a cts.length j=x) (fun zz=>match zz with|(j,x)=>j) ((cts.length,namE 4 kTrue a))
 ·repeat' (first|exact Xe|apply Xc rfl|apply Xd rfl)
 ·exact ⟨Nat.le_refl _,by unfold eqV;exact if_pos Y⟩
 ·exact Yy Y (Le.ieq by16) by6
 ·exact by5
 rintro ⟨j,⟨xk,xs,xn,⟨xtk,xts,xtn,xtl⟩,xks,xal,xbs,xp⟩⟩ hI
 try dsimp only [List.cons_append,List.nil_append] at hI ⊢
 obtain ⟨hj,hA⟩:=hI
 refine QU ?_
 refine Qcn ?_;intro c23 h23
 refine Qa ?_
 obtain ⟨rfl,g23⟩|⟨rfl,g23⟩:=Za h23
 ·refine QN ?_
  obtain rfl:j=0:=by omega
  rw [hA] at hr
  refine Yc [0,1,2,3,4,5,6] [5] [[],[],[0,1],[],[0,1,2,3],[0,1,2,3,4],[0,1,2,3,4,5]] tmix Y ?_
  refine Qaq ?_
  refine Zf 43 (some 1) (i:=1) Y Y Y Y Y (Zx (cs':=[_,_,_]) (i:=0) Y ta_43 Y Y Y Y ⟨Y,Y⟩) ?_
  refine Zf 44 (none) (i:=2) Y Y Y Y Y (Zd (xs:=[.tmp 42,.tmp 43,.const (.string ⟨#[121]⟩)]) Y Y (HPT) by3 ⟨Y,Y⟩) ?_
  refine QcR ?_
  refine Zf 46 (none) (i:=4) Y Y Y Y Y (Zi (ns:=[0,1]) (xs:=[.tmp 44,.tmp 45]) (cs':=[_,_,_,_,_,_,_,_,_,_,_,_,_,_,_,_]) Y tz_54 Y tfl_54 Y Y Y Y ⟨Y,Y⟩) ?_
  refine EOps.nw (i:=5) Y Y Y (op_buildSlice_own (xs:=[.tmp 46]) el_45 Y Y Y Y Y Y (Xb Y) (fun u47=>⟨_,Y,?_⟩))
  refine Qc5 ?_
  show AGo _ _ _ _ _ _ _
  refine QaP ?_
  refine Qn ?_
  refine QaS ?_
  refine Ql ?_
  refine Qbq ?_;intro n51
  refine Q8 ?_;intro c52 h52
  refine Qa ?_
  obtain ⟨rfl,g52⟩|⟨rfl,g52⟩:=Za h52
  ·refine Qt ?_
   first
   |(rw [if_neg by16] at hr;subst hr;have HC1:=HC [.mk (.mk 3 cs 0 (patL a kY cts.length) a) (.mk xk xs xn ⟨xtk,xts,xtn,xtl⟩ xks xal xbs xp)])
   | skip
   refine Qdn ?_
   refine Qb8 ?_
   refine Zf 64 (none) (i:=2) Y Y Y Y Y (Zd (xs:=[.tmp 63,.const (.string ⟨#[121]⟩)]) Y Y (HY) by3 ⟨Y,Y⟩) ?_
   refine Qr ?_
   refine Zf 66 (none) (i:=4) Y Y Y Y Y (Zd (xs:=[.tmp 62,.tmp 64,.tmp 65]) Y Y (HC1) (by repeat' (first|exact Yw _|refine Yx ?_ ?_|exact Yv _|exact Le.own _ _ _|exact Le.nil _|refine Le.agg ?_|refine Le.own_seqL ?_|refine Le.seq ?_|exact Less.refl _|exact Less.nil|refine Less.cons ?_ Y ?_)) ⟨Y,Y⟩) ?_
   refine Qel ?_
   show AGo _ _ _ _ _ _ _
   refine QV ?_
   first
   | exact Zl (i:=2) rfl rfl rfl Ya rfl by4 (Yr _) ⟨rfl,rfl⟩
   | exact Zl (i:=3) rfl rfl rfl Ya rfl by4 (Yr _) ⟨rfl,rfl⟩
  refine Qk ?_
  rw [if_pos by16] at hr
  subst hr
  have HC1:=HC [.mk (.mk 3 cs 0 (patL a kY cts.length) a) (.mk xk xs xn ⟨xtk,xts,xtn,xtl⟩ xks xal xbs xp),.mk (.mk 1 kE 0 [] a) (namE 4 kFalse a)]
  refine Yc [0,1,2,3,4,5,6,7,8,9] [8] [[],[],[1],[1,2],[],[4],[1,2,3,4,5],[1,2,3,4,5,6],[0,1,2,3,4,5,6,7],[0,1,2,3,4,5,6,7,8]] tmix Y ?_
  refine Qr ?_
  refine Qa2 ?_
  refine Zf 56 (none) (i:=3) Y Y Y Y Y (Zi (ns:=[0,4]) (xs:=[.const (.int .i64 1),.tmp 55]) (cs':=[_,_,_,_,_]) Y tz_52 Y tfl_52 Y Y Y Y ⟨Y,Y⟩) ?_
  refine Qaq ?_
  refine Zf 58 (none) (i:=5) Y Y Y Y Y (Zd (xs:=[.tmp 57,.const (.string ⟨#[70,97,108,115,101]⟩)]) Y Y (HF) by3 ⟨Y,Y⟩) ?_
  refine Zf 59 (none) (i:=6) Y Y Y Y Y (Zi (ns:=[0,1]) (xs:=[.tmp 56,.tmp 58]) (cs':=[_,_,_,_,_,_,_,_,_,_,_,_,_,_,_,_]) Y tz_54 Y tfl_54 Y Y Y Y ⟨Y,Y⟩) ?_
  refine Zf 60 (none) (i:=7) Y Y Y Y Y (Ze (xs:=[.tmp 59]) el_45 Y Y Y Y Y Y (Xb Y) ⟨Y,Y⟩) ?_
  refine Zz 3 (i:=8) Y Y Y Y Y (Zu (i:=0) el_45 Y Y Y Y (.seq _ _) by8 (fun u61=>⟨_,Y,?_⟩))
  refine Qc5 ?_
  show AGo _ _ _ _ _ _ _
  refine QaP ?_
  first
  |(rw [if_neg by16] at hr;subst hr;have HC1:=HC [.mk (.mk 3 cs 0 (patL a kY cts.length) a) (.mk xk xs xn ⟨xtk,xts,xtn,xtl⟩ xks xal xbs xp)])
  | skip
  refine Qdn ?_
  refine Qb8 ?_
  refine Zf 64 (none) (i:=2) Y Y Y Y Y (Zd (xs:=[.tmp 63,.const (.string ⟨#[121]⟩)]) Y Y (HY) by3 ⟨Y,Y⟩) ?_
  refine Qr ?_
  refine Zf 66 (none) (i:=4) Y Y Y Y Y (Zd (xs:=[.tmp 62,.tmp 64,.tmp 65]) Y Y (HC1) (by repeat' (first|exact Yw _|refine Yx ?_ ?_|exact Yv _|exact Le.own _ _ _|exact Le.nil _|refine Le.agg ?_|refine Le.own_seqL ?_|refine Le.seq ?_|exact Less.refl _|exact Less.nil|refine Less.cons ?_ Y ?_)) ⟨Y,Y⟩) ?_
  refine Qel ?_
  show AGo _ _ _ _ _ _ _
  refine QV ?_
  first
  | exact Zl (i:=2) rfl rfl rfl Ya rfl by4 (Yr _) ⟨rfl,rfl⟩
  | exact Zl (i:=3) rfl rfl rfl Ya rfl by4 (Yr _) ⟨rfl,rfl⟩
 refine QI ?_
 obtain ⟨j,rfl⟩:∃ k,j=k+1:=⟨j - 1,by omega⟩
 rw [show (((j+1:Nat):Int) - 1)=(j:Int) by omega]
 have HPj:=HP j by16
 obtain ⟨⟨rk,rs,rn,⟨rtk,rts,rtn,rtl⟩,rks,ral,rbs,rp⟩,hr2⟩:∃ r,twoX a kEqN j=r:=⟨_,rfl⟩
 rw [hr2] at HPj
 refine Qj ?_
 refine Qcd ?_
 refine Qb ?_
 refine Zb 28 Y Y Y (Zd (xs:=[.tmp 26,.const (.string ⟨#[101,113]⟩),.tmp 27]) Y Y (HPj) by3 ?_)
 refine QH ?_;intro b8
 refine QS ?_
 refine Q2 ?_
 refine Qx ?_
 refine Qa6 ?_
 refine QY ?_;intro n32
 refine QT ?_
 refine Qm ?_;intro c34 h34
 refine Qa ?_
 obtain ⟨rfl,g34⟩|⟨rfl,g34⟩:=Za h34
 ·refine QF ?_
  refine Qj ?_
  refine Qac ?_
  refine Qbp ?_
  refine Q0 ?_
  refine QaU ?_
  refine Qg ?_
  refine QT ?_
  refine Qaj ?_
  first
  | exact ⟨(j,opE 10 [.mk rk rs rn ⟨rtk,rts,rtn,rtl⟩ rks ral rbs rp,.mk xk xs xn ⟨xtk,xts,xtn,xtl⟩ xks xal xbs xp] a),⟨by omega,by rw [eqV_and a by16,hr2,hA]⟩,by show j<j+1;omega,by6,by0⟩
  | exact ⟨(j,.mk rk rs rn ⟨rtk,rts,rtn,rtl⟩ rks ral rbs rp),⟨by omega,by rw [eqV_one a by16,hr2]⟩,by show j<j+1;omega,by6,by0⟩
 refine Qk ?_
 refine Qj ?_
 refine Qac ?_
 refine QcO ?_
 refine Zb 37 Y Y Y (Ze (xs:=[.tmp 35,.tmp 36]) Yp Y Y Y Y Y Y (Xb Y) ?_)
 refine Ql ?_
 refine Zb 40 Y Y Y (Zi (ns:=[0,4,7]) (xs:=[.const (.int .i64 10),.tmp 37,.tmp 39]) (cs':=[_,_,_,_,_,_,_,_,_,_,_]) Y tz_47 Y tfl_47 Y Y Y Y ?_)
 refine QS ?_
 refine Qa ?_
 refine Qj ?_
 refine Qac ?_
 refine Qbp ?_
 refine Q0 ?_
 refine QaU ?_
 refine Qg ?_
 refine QT ?_
 refine Qaj ?_
 first
 | exact ⟨(j,opE 10 [.mk rk rs rn ⟨rtk,rts,rtn,rtl⟩ rks ral rbs rp,.mk xk xs xn ⟨xtk,xts,xtn,xtl⟩ xks xal xbs xp] a),⟨by omega,by rw [eqV_and a by16,hr2,hA]⟩,by show j<j+1;omega,by6,by0⟩
 | exact ⟨(j,.mk rk rs rn ⟨rtk,rts,rtn,rtl⟩ rks ral rbs rp),⟨by omega,by rw [eqV_one a by16,hr2]⟩,by show j<j+1;omega,by6,by0⟩
/- alternatives of all constructors, by their places -/
def alF (f:Nat→Cn→Al):Nat→List Cn→List Al
 | _,[]=>[]
 | k,c::l=>f k c::alF f (k+1) l
theorem alF_snoc (f:Nat→Cn→Al) (c:Cn):∀ (l:List Cn) (k:Nat),alF f k (l++[c])=alF f k l++[f (k+l.length) c]
 | [],k=>rfl
 | x::l,k=>by
  show f k x::alF f (k+1) (l++[c])=f k x::alF f (k+1) l++[f (k+(l.length+1)) c]
  rw [alF_snoc f c l (k+1),show k+1+l.length=k+(l.length+1) by omega]
  rfl
theorem alF_len (f:Nat→Cn→Al):∀ (l:List Cn) (k:Nat),(alF f k l).length=l.length
 | [],_=>rfl
 | _::l,k=>by show (alF f (k+1) l).length+1=l.length+1;rw [alF_len f l]
theorem alts_alF (a:Int) (g:Nat→Cn→Opd × Dx):∀ (l:List Cn) (k:Nat),Dx.alts a (altD g k l)=alF (fun k c=>.mk (paX a (g k c).1) ((g k c).2.ex a)) k l
 | [],_=>rfl
 | c::l,k=>by
  rw [altD,Dx.alts,alts_alF a g l (k+1)]
  rfl
theorem casD_ex (a:Int) (h:Opd) (g:Nat→Cn→Opd × Dx) {l:List Cn} (hl:l≠[]):(casD h (altD g 0 l)).ex a=.mk 8 kE 0 ty0 [opX a h] (alF (fun k c=>.mk (paX a (g k c).1) ((g k c).2.ex a)) 0 l) [] a:=by
 rw [← alts_alF]
 cases l with
 | nil=>exact absurd rfl hl
 | cons c l =>
  show (Dx.cas h (g 0 c).1 (g 0 c).2 (altD g 1 l)).ex a=_
  rw [Dx.ex]
  rfl
def cmpA (a:Int) (i k:Nat) (c:Cn):Al:=if k<i then .mk (patX a c.s kE c.ts.length) (namE 4 kGT a) else if k=i then .mk (patX a c.s kY c.ts.length) (orderX a c.ts.length) else .mk (patX a c.s kE c.ts.length) (namE 4 kLT a)
def cmpXX (a:Int) (i:Nat) (cs:List Cn):Ex:=.mk 8 kE 0 ty0 [namE 3 kY a] (alF (cmpA a i) 0 cs) [] a
theorem cmpXX_law (a:Int) (i:Nat) {cs:List Cn} (h:cs≠[]):(cmpD num i cs).ex a=cmpXX a i cs:=by
 unfold cmpD cmpXX
 rw [casD_ex a _ _ h]
 have e:(fun k c=>Al.mk (paX a (cmpG num i k c).1) ((cmpG num i k c).2.ex a))=cmpA a i:=by
  funext k c
  unfold cmpG cmpA
  split
  ·rw [patX_law];rfl
  split
  ·rw [patX_law,orderX_law]
  rw [patX_law];rfl
 rw [e]
 rfl
theorem Al.cellss_snoc (l:List Al) (x:Al):Al.cellss (l++[x])=Al.cellss l++[x.cells]:=by
 rw [Al.cellss_map,Al.cellss_map,List.map_append];rfl
theorem m_compare_c (d:Da) (a:Int) (i:Nat) (hn:∀ c∈d.cs,c.ts.length≤1000000) (hd:d.cs.length≤1000000):PCall Try.prog 13 [.agg (mkC d a),.val (.int .i64 i)] (.agg (cmpXX a i d.cs).cells):=by
 have HG:=m_con_c d a kGT
 have HL:=m_con_c d a kLT
 have HY:=m_name_c d a kY
 have HP:=fun c of h1 h2=>m_pattern_c d a c of h1 h2
 have HO:=fun c h=>m_order_c d a c h
 have HC:=m_cases_c d a (namE 3 kY a) (alF (cmpA a i) 0 d.cs)
 obtain ⟨ds,dps,dcs,ddv,dp⟩:=d
 replace hn:∀ c∈dcs,c.ts.length≤1000000:=hn
 replace hd:dcs.length≤1000000:=hd
 replace HC:PCall Try.prog 25 [.agg (mkC (Da.mk ds dps dcs ddv dp) a),.agg (namE 3 kY a).cells,.seq 16 (Al.cellss (alF (cmpA a i) 0 dcs))] (.agg (cmpXX a i dcs).cells):=HC
 show PCall Try.prog _ _ (.agg (cmpXX a i dcs).cells)
 have hlc:=Cn.cellss_len dcs
 unfold mkC cmpXX at *
 simp only [Da.cells,List.cons_append,List.nil_append] at *
 refine Zc Try.func13 Y (by kernel_rfl) Y (Xb Y) ?_
 refine Qb7 ?_;intro b4
 refine Qa ?_
 refine QC ?_
 refine QE ?_
 refine Qn ?_
 refine QaS ?_
 refine Ql ?_
 refine Qbq ?_;intro n11
 refine QbF ?_
 refine c_ownNew 54 16 ?_
 apply Yn (rg [(0,1),(3,1),(5,5),(12,42)]) (σ:=Nat × Value) (fun zz=>match zz with|(k,u)=>[(12,.val (.int .i64 k)),(5,.own u 16 (Al.cellss (alF (cmpA a i) 0 (dcs.take k))))]) (fun zz=>match zz with|(k,u)=>[.loc b4 zEx,.own 54 16 u]) (fun zz=>match zz with|(k,u)=>k≤dcs.length) (fun zz=>match zz with|(k,u)=>dcs.length - k) ((0,.slice none 0 0))
 ·repeat' (first|exact Xe|apply Xc rfl|apply Xd rfl)
 ·exact Nat.zero_le _
 ·exact Yy Y (Yv _) (Yy Y (Le.nilOwn 16) (SLe.nil _))
 ·exact (Yu Y)
 rintro ⟨k,u⟩ hI
 try dsimp only [List.cons_append,List.nil_append] at hI ⊢
 have hk:=hI
 have hal:(Al.cellss (alF (cmpA a i) 0 (dcs.take k))).length≤1000000:=by
  rw [Al.cellss_map,List.length_map,alF_len,List.length_take];omega
 refine QbG ?_;intro c13 h13
 refine QL ?_
 obtain ⟨rfl,g13⟩|⟨rfl,g13⟩:=Za h13
 ·refine QN ?_
  rw [List.take_of_length_le by16]
  refine Qdn ?_
  refine Qb8 ?_
  refine Zf 56 (none) (i:=2) Y Y Y Y Y (Zd (xs:=[.tmp 55,.const (.string ⟨#[121]⟩)]) Y Y (HY) by3 ⟨Y,Y⟩) ?_
  refine Qr ?_
  refine Zf 58 (none) (i:=4) Y Y Y Y Y (Zd (xs:=[.tmp 54,.tmp 56,.tmp 57]) Y Y (HC) by3 ⟨Y,Y⟩) ?_
  refine Qce ?_
  show AGo _ _ _ _ _ _ _
  refine QV ?_
  exact Zl (i:=0) Y Y Y Ya Y by4 (Yr _) ⟨Y,Y⟩
 refine QI ?_
 obtain ⟨⟨qs,qts,qp⟩,hxq⟩:=Zn (l:=dcs) (i:=k) by9
 have hcq:=Cn.cellss_get hxq
 have hmq:=Xf hxq
 have hnq:qts.length≤1000000:=hn _ hmq
 have hsn:=Yk hxq
 have htl:(dcs.take k).length=k:=by rw [List.length_take];omega
 have HPE:PCall Try.prog 24 _ (.agg (patX a qs kE qts.length).cells):=HP (Cn.mk qs qts qp) kE by15 hnq
 have HPY:PCall Try.prog 24 _ (.agg (patX a qs kY qts.length).cells):=HP (Cn.mk qs qts qp) kY by15 hnq
 have HOq:PCall Try.prog 29 _ (.agg (orderX a qts.length).cells):=HO (Cn.mk qs qts qp) hnq
 have hca:cmpA a i k (Cn.mk qs qts qp)=if k<i then .mk (patX a qs kE qts.length) (namE 4 kGT a) else if k=i then .mk (patX a qs kY qts.length) (orderX a qts.length) else .mk (patX a qs kE qts.length) (namE 4 kLT a):=rfl
 obtain ⟨⟨ok,os,on,⟨otk,ots,otn,otl⟩,oks,oal,obs,op⟩,ho⟩:∃ r,orderX a qts.length=r:=⟨_,rfl⟩
 rw [ho] at HOq hca
 unfold patX at HPE HPY hca
 simp only [Cn.cells] at HPE HPY HOq
 refine Qg ?_
 refine QcS ?_
 refine Qcg ?_
 refine Qch ?_;intro b7
 refine QaR ?_
 refine Qci ?_
 refine Qa ?_
 refine Qa3 ?_
 refine QO ?_
 refine Qm ?_;intro c29 h29
 refine Qd ?_
 obtain ⟨rfl,g29⟩|⟨rfl,g29⟩:=Za h29
 ·refine QP ?_
  refine QO ?_
  refine Qi ?_;intro c42 h42
  refine Qd ?_
  obtain ⟨rfl,g42⟩|⟨rfl,g42⟩:=Za h42
  ·refine QP ?_
   refine Qem ?_
   refine Qr ?_
   refine Qaq ?_
   refine Qdo ?_
   refine Zf 20 (none) (i:=3) Y Y Y Y Y (Zd (xs:=[.tmp 18,.tmp 19,.const (.string ⟨#[]⟩)]) Y Y (HPE) by3 ⟨Y,Y⟩) ?_
   refine Qaq ?_
   refine Zf 22 (none) (i:=5) Y Y Y Y Y (Zd (xs:=[.tmp 21,.const (.string ⟨#[76,84]⟩)]) Y Y (HL) by3 ⟨Y,Y⟩) ?_
   refine Zf 23 (none) (i:=6) Y Y Y Y Y (Zi (ns:=[0,1]) (xs:=[.tmp 20,.tmp 22]) (cs':=[_,_,_,_,_,_,_,_,_,_,_,_,_,_,_,_]) Y tz_54 Y tfl_54 Y Y Y Y ⟨Y,Y⟩) ?_
   refine Zf 24 (none) (i:=7) Y Y Y Y Y (Ze (xs:=[.tmp 23]) el_45 Y Y Y Y Y Y (Xb Y) ⟨Y,Y⟩) ?_
   refine Zz 2 (i:=8) Y Y Y Y Y (Zu (i:=0) el_45 Y Y Y Y (.seq _ _) by8 (fun u25=>⟨_,Y,?_⟩))
   refine Qc5 ?_
   show AGo _ _ _ _ _ _ _
   refine go_blk ?_
   refine Qa1 ?_
   first
   |(rw [if_pos by16] at hca;exact ⟨(k+1,u38),by show k+1≤dcs.length;omega,by show dcs.length - (k+1)<dcs.length - k;omega,Yy rfl (Yv _) (Yy rfl (Xa (by rw [hsn,alF_snoc,Al.cellss_snoc,htl,show 0+k=k by omega,hca];rfl)) by6),(Yt _ (Yu rfl))⟩)
   |(rw [if_neg by16,if_pos by16] at hca;exact ⟨(k+1,u52),by show k+1≤dcs.length;omega,by show dcs.length - (k+1)<dcs.length - k;omega,Yy rfl (Yv _) (Yy rfl (Xa (by rw [hsn,alF_snoc,Al.cellss_snoc,htl,show 0+k=k by omega,hca];rfl)) by6),(Yt _ (Yu rfl))⟩)
   |(rw [if_neg by16,if_neg by16] at hca;exact ⟨(k+1,u25),by show k+1≤dcs.length;omega,by show dcs.length - (k+1)<dcs.length - k;omega,Yy rfl (Yv _) (Yy rfl (Xa (by rw [hsn,alF_snoc,Al.cellss_snoc,htl,show 0+k=k by omega,hca];rfl)) by6),(Yt _ (Yu rfl))⟩)
  refine Qk ?_
  refine Yc [0,1,2,3,4,5,6,7,8,9,10] [9] [[],[],[],[1,2],[],[],[1,2,3,4,5],[1,2,3,4,5,6],[1,2,3,4,5,6,7],[0,1,2,3,4,5,6,7,8],[0,1,2,3,4,5,6,7,8,9]] tmix Y ?_
  refine Qr ?_
  refine Qaq ?_
  refine Qdo ?_
  refine Zf 46 (none) (i:=3) Y Y Y Y Y (Zd (xs:=[.tmp 44,.tmp 45,.const (.string ⟨#[121]⟩)]) Y Y (HPY) by3 ⟨Y,Y⟩) ?_
  refine Qaq ?_
  refine Qdo ?_
  refine Zf 49 (none) (i:=6) Y Y Y Y Y (Zd (xs:=[.tmp 47,.tmp 48,.const (.int .i64 0)]) Y Y (HOq) by3 ⟨Y,Y⟩) ?_
  refine Zf 50 (none) (i:=7) Y Y Y Y Y (Zi (ns:=[0,1]) (xs:=[.tmp 46,.tmp 49]) (cs':=[_,_,_,_,_,_,_,_,_,_,_,_,_,_,_,_]) Y tz_54 Y tfl_54 Y Y Y Y ⟨Y,Y⟩) ?_
  refine Zf 51 (none) (i:=8) Y Y Y Y Y (Ze (xs:=[.tmp 50]) el_45 Y Y Y Y Y Y (Xb Y) ⟨Y,Y⟩) ?_
  refine Zz 2 (i:=9) Y Y Y Y Y (Zu (i:=0) el_45 Y Y Y Y (.seq _ _) by8 (fun u52=>⟨_,Y,?_⟩))
  refine Qc5 ?_
  show AGo _ _ _ _ _ _ _
  refine go_blk ?_
  refine Qa1 ?_
  first
  |(rw [if_pos by16] at hca;exact ⟨(k+1,u38),by show k+1≤dcs.length;omega,by show dcs.length - (k+1)<dcs.length - k;omega,Yy rfl (Yv _) (Yy rfl (Xa (by rw [hsn,alF_snoc,Al.cellss_snoc,htl,show 0+k=k by omega,hca];rfl)) by6),(Yt _ (Yu rfl))⟩)
  |(rw [if_neg by16,if_pos by16] at hca;exact ⟨(k+1,u52),by show k+1≤dcs.length;omega,by show dcs.length - (k+1)<dcs.length - k;omega,Yy rfl (Yv _) (Yy rfl (Xa (by rw [hsn,alF_snoc,Al.cellss_snoc,htl,show 0+k=k by omega,hca];rfl)) by6),(Yt _ (Yu rfl))⟩)
  |(rw [if_neg by16,if_neg by16] at hca;exact ⟨(k+1,u25),by show k+1≤dcs.length;omega,by show dcs.length - (k+1)<dcs.length - k;omega,Yy rfl (Yv _) (Yy rfl (Xa (by rw [hsn,alF_snoc,Al.cellss_snoc,htl,show 0+k=k by omega,hca];rfl)) by6),(Yt _ (Yu rfl))⟩)
 refine Qk ?_
 refine Qem ?_
 refine Qr ?_
 refine Qaq ?_
 refine Qdo ?_
 refine Zf 33 (none) (i:=3) Y Y Y Y Y (Zd (xs:=[.tmp 31,.tmp 32,.const (.string ⟨#[]⟩)]) Y Y (HPE) by3 ⟨Y,Y⟩) ?_
 refine Qaq ?_
 refine Zf 35 (none) (i:=5) Y Y Y Y Y (Zd (xs:=[.tmp 34,.const (.string ⟨#[71,84]⟩)]) Y Y (HG) by3 ⟨Y,Y⟩) ?_
 refine Zf 36 (none) (i:=6) Y Y Y Y Y (Zi (ns:=[0,1]) (xs:=[.tmp 33,.tmp 35]) (cs':=[_,_,_,_,_,_,_,_,_,_,_,_,_,_,_,_]) Y tz_54 Y tfl_54 Y Y Y Y ⟨Y,Y⟩) ?_
 refine Zf 37 (none) (i:=7) Y Y Y Y Y (Ze (xs:=[.tmp 36]) el_45 Y Y Y Y Y Y (Xb Y) ⟨Y,Y⟩) ?_
 refine Zz 2 (i:=8) Y Y Y Y Y (Zu (i:=0) el_45 Y Y Y Y (.seq _ _) by8 (fun u38=>⟨_,Y,?_⟩))
 refine Qc5 ?_
 show AGo _ _ _ _ _ _ _
 refine go_blk ?_
 refine Qa1 ?_
 first
 |(rw [if_pos by16] at hca;exact ⟨(k+1,u38),by show k+1≤dcs.length;omega,by show dcs.length - (k+1)<dcs.length - k;omega,Yy rfl (Yv _) (Yy rfl (Xa (by rw [hsn,alF_snoc,Al.cellss_snoc,htl,show 0+k=k by omega,hca];rfl)) by6),(Yt _ (Yu rfl))⟩)
 |(rw [if_neg by16,if_pos by16] at hca;exact ⟨(k+1,u52),by show k+1≤dcs.length;omega,by show dcs.length - (k+1)<dcs.length - k;omega,Yy rfl (Yv _) (Yy rfl (Xa (by rw [hsn,alF_snoc,Al.cellss_snoc,htl,show 0+k=k by omega,hca];rfl)) by6),(Yt _ (Yu rfl))⟩)
 |(rw [if_neg by16,if_neg by16] at hca;exact ⟨(k+1,u25),by show k+1≤dcs.length;omega,by show dcs.length - (k+1)<dcs.length - k;omega,Yy rfl (Yv _) (Yy rfl (Xa (by rw [hsn,alF_snoc,Al.cellss_snoc,htl,show 0+k=k by omega,hca];rfl)) by6),(Yt _ (Yu rfl))⟩)
def hatE (a:Int) (x y:Ex):Ex:=opE 5 [opE 5 [namE 3 kHat a,x] a,y] a
def aheadB (c:ByteArray) (j:Nat):ByteArray:=if j=0 then ⟨#[40]⟩++c++⟨#[32]⟩ else ⟨#[32]⟩
def showK (a:Int) (j:Nat):Ex:=opE 5 [namE 3 kShw a,namE 3 (kX++num j) a] a
def shW (a:Int) (c:ByteArray):Nat→Nat→Ex
 | j,0=>hatE a (namE 2 (aheadB c j) a) (hatE a (showK a j) (namE 2 ⟨#[41]⟩ a))
 | j,r+1=>hatE a (namE 2 (aheadB c j) a) (hatE a (showK a j) (shW a c (j+1) r))
def shV (a:Int) (c:ByteArray) (n j:Nat):Ex:=if j=n then namE 2 ⟨#[41]⟩ a else shW a c j (n - 1 - j)
theorem shV_step (a:Int) (c:ByteArray) {n j:Nat} (h:j<n):shV a c n j=hatE a (namE 2 (aheadB c j) a) (hatE a (showK a j) (shV a c n (j+1))):=by
 obtain ⟨r,rfl⟩:∃ r,n=j+1+r:=⟨n - j - 1,by omega⟩
 unfold shV
 rw [if_neg by16,show j+1+r - 1 - j=r by omega]
 cases r with
 | zero=>rw [if_pos by16];rfl
 | succ r=>rw [if_neg by16,show j+1+(r+1) - 1 - (j+1)=r by omega];rfl
def shG:Nat→Nat→List Opd
 | j,0=>[showO num j]
 | j,r+1=>showO num j::strO ⟨#[32]⟩::shG (j+1) r
theorem shG_snoc:∀ r j,shG j (r+1)=shG j r++[strO ⟨#[32]⟩,showO num (j+r+1)]
 | 0,j=>rfl
 | r+1,j=>by
  rw [shG,shG_snoc r (j+1)]
  show _=showO num j::strO ⟨#[32]⟩::shG (j+1) r++_
  rw [show j+1+r+1=j+(r+1)+1 by omega]
  rfl
theorem shL_G:∀ n,shL num (n+1)=shG 0 n
 | 0=>rfl
 | n+1=>by
  rw [shL,if_pos by16,shL_G n,shG_snoc,List.append_assoc,show 0+n+1=n+1 by omega]
  rfl
theorem bin_hat (a:Int) (x y:Ex):binE ⟨5,kHat,0,a⟩ x y=hatE a x y:=by
 exact (if_neg (show ¬ kHat=kAA by decide +kernel)).trans (if_neg (show ¬ kHat=kOO by decide +kernel))
theorem shW_law (a:Int) (c:ByteArray):∀ r j,chX a kHat (strO (aheadB c j)) (shG j r++[strO ⟨#[41]⟩])=shW a c j r
 | 0,j=>by
  show binE _ _ (binE _ _ _)=_
  rw [bin_hat,bin_hat]
  rfl
 | r+1,j=>by
  have h:=shW_law a c r (j+1)
  rw [shW,← h]
  show binE _ _ (binE _ _ _)=_
  rw [bin_hat,bin_hat]
  rw [show aheadB c (j+1)=⟨#[32]⟩ from if_neg by16]
  rfl
def showXX (a:Int) (c:ByteArray) (n:Nat):Ex:=if n=0 then namE 2 c a else shV a c n 0
theorem showXX_law (a:Int) (c:Cn):(showD num c).ex a=showXX a c.s c.ts.length:=by
 unfold showD showXX
 by_cases h:c.ts.length=0
 ·rw [if_pos h,if_pos h];rfl
 rw [if_neg h,if_neg h]
 obtain ⟨n,hn⟩:∃ n,c.ts.length=n+1:=⟨c.ts.length - 1,by omega⟩
 rw [hn]
 unfold shV
 rw [if_neg by16,show n+1 - 1 - 0=n by omega,← shW_law,shL_G]
 rfl
theorem m_show_c (d:Da) (a:Int) (i:Nat) (c:Cn) (hc:d.cs[i]?=some c) (hn:c.ts.length≤1000000) (hsz:c.s.size≤1000000):PCall Try.prog 14 [.agg (mkC d a),.val (.int .i64 i)] (.agg (showXX a c.s c.ts.length).cells):=by
 have HT:=fun s=>m_text_c d a s
 have HN:=fun s=>m_name_c d a s
 have HA:=fun k h=>m_arg_c kX by15 k h
 have HP:=fun f l=>m_apply_c d a f l
 obtain ⟨ds,dps,dcs,ddv,dp⟩:=d
 obtain ⟨cs,cts,cp⟩:=c
 replace hn:cts.length≤1000000:=hn
 replace hsz:cs.size≤1000000:=hsz
 replace hc:dcs[i]?=some (Cn.mk cs cts cp):=hc
 have hl:=Ty.cellss_len cts
 have hlc:=Cn.cellss_len dcs
 have hcc:=Cn.cellss_get hc
 have hz40:(⟨#[40]⟩:ByteArray).size=1:=rfl
 have hz32:(⟨#[32]⟩:ByteArray).size=1:=rfl
 have hsa:(⟨#[40]⟩++cs:ByteArray).size≤1000001:=by rw [ByteArray.size_append];omega
 obtain ⟨r,hr⟩:∃ r,showXX a cs cts.length=r:=⟨_,rfl⟩
 show PCall Try.prog _ _ (.agg (showXX a cs cts.length).cells)
 rw [hr]
 unfold showXX at hr
 unfold mkC at *
 simp only [Da.cells,List.cons_append,List.nil_append] at *
 have HT1:=HT cs
 have HT2:=HT ⟨#[41]⟩
 refine Zc Try.func14 Y (by kernel_rfl) Y (Xb Y) ?_
 refine Qb7 ?_;intro b4
 refine QG ?_
 refine QaS ?_
 refine Qaa ?_
 refine Qdm ?_
 refine Qcg ?_
 refine Qch ?_;intro b5
 refine Qci ?_
 refine QbC ?_
 refine QY ?_;intro n17
 refine Qi ?_;intro c18 h18
 refine Qa ?_
 obtain ⟨rfl,g18⟩|⟨rfl,g18⟩:=Za h18
 ·refine Qt ?_
  rw [if_neg by16] at hr
  refine Qj ?_
  refine Qcd ?_
  refine Zb 24 Y Y Y (Zd (xs:=[.tmp 23,.const (.string ⟨#[41]⟩)]) Y Y (HT2) by3 ?_)
  refine QH ?_;intro b6
  refine QS ?_
  refine QL ?_
  refine QaV ?_
  refine QY ?_;intro n27
  refine QT ?_
  refine Qbj ?_
  apply Yn (rg [(0,2),(3,1),(7,49)]) (σ:=Nat × Ex) (fun zz=>match zz with|(j,x)=>[(7,.val (.int .i64 ((j:Int) - 1)))]) (fun zz=>match zz with|(j,x)=>[.loc b6 x.cells,.loc b5 (Cn.mk cs cts cp).cells,.loc b4 zEx]) (fun zz=>match zz with|(j,x)=>j≤cts.length∧shV a cs cts.length j=x) (fun zz=>match zz with|(j,x)=>j) ((cts.length,namE 2 ⟨#[41]⟩ a))
  ·repeat' (first|exact Xe|apply Xc rfl|apply Xd rfl)
  ·exact ⟨Nat.le_refl _,by unfold shV;exact if_pos Y⟩
  ·exact Yy Y (Le.ieq by16) by6
  ·exact by5
  rintro ⟨j,⟨xk,xs,xn,⟨xtk,xts,xtn,xtl⟩,xks,xal,xbs,xp⟩⟩ hI
  try dsimp only [List.cons_append,List.nil_append] at hI ⊢
  obtain ⟨hj,hA⟩:=hI
  refine QU ?_
  refine Qcn ?_;intro c30 h30
  refine Qa ?_
  obtain ⟨rfl,g30⟩|⟨rfl,g30⟩:=Za h30
  ·refine QN ?_
   obtain rfl:j=0:=by omega
   rw [hA] at hr
   subst hr
   refine Qj ?_
   refine Qac ?_
   refine QbK ?_
   refine Qo ?_
   exact Zl (i:=2) Y Y Y Ya Y by4 (Yr _) ⟨Y,Y⟩
  refine QI ?_
  obtain ⟨j,rfl⟩:∃ k,j=k+1:=⟨j - 1,by omega⟩
  rw [show (((j+1:Nat):Int) - 1)=(j:Int) by omega]
  have HAj:=HA j by16
  have HNj:=HN (kX++num j)
  have H1:PCall Try.prog 31 _ (.agg (showK a j).cells):=HP kShw [namE 3 (kX++num j) a]
  have H2:PCall Try.prog 31 _ (.agg (hatE a (showK a j) (.mk xk xs xn ⟨xtk,xts,xtn,xtl⟩ xks xal xbs xp)).cells):=HP kHat [showK a j,.mk xk xs xn ⟨xtk,xts,xtn,xtl⟩ xks xal xbs xp]
  have H3:PCall Try.prog 31 _ (.agg (hatE a (namE 2 (aheadB cs j) a) (hatE a (showK a j) (.mk xk xs xn ⟨xtk,xts,xtn,xtl⟩ xks xal xbs xp))).cells):=HP kHat [namE 2 (aheadB cs j) a,hatE a (showK a j) (.mk xk xs xn ⟨xtk,xts,xtn,xtl⟩ xks xal xbs xp)]
  have H0:=HT (aheadB cs j)
  have hst:=shV_step a cs (n:=cts.length) (j:=j) by16
  rw [hA] at hst
  unfold hatE showK at H1 H2 H3 hst
  generalize kX++num j=nx at *
  refine Qj ?_
  refine Qbz ?_
  refine Qi ?_;intro c34 h34
  refine Qa ?_
  obtain ⟨rfl,g34⟩|⟨rfl,g34⟩:=Za h34
  ·refine QF ?_
   first
   | rw [show aheadB cs j=⟨#[40]⟩++cs++⟨#[32]⟩ from if_pos by16] at H0 H3 hst
   | rw [show aheadB cs j=⟨#[32]⟩ from if_neg by16] at H0 H3 hst
   refine Qen ?_
   refine Qb8 ?_
   refine Qr ?_
   refine Zf 42 (none) (i:=3) Y Y Y Y Y (Zd (xs:=[.tmp 40,.tmp 41]) Y Y (H0) by3 ⟨Y,Y⟩) ?_
   refine Qb8 ?_
   refine Qaq ?_
   refine Qr ?_
   refine Zf 47 (none) (i:=8) Y Y Y Y Y (Zd (xs:=[.const (.string ⟨#[120]⟩),.tmp 46]) Y Y (HAj) by3 ⟨Y,Y⟩) ?_
   refine Zf 48 (none) (i:=9) Y Y Y Y Y (Zd (xs:=[.tmp 45,.tmp 47]) Y Y (HNj) by3 ⟨Y,Y⟩) ?_
   refine Qeo ?_
   refine Zf 50 (none) (i:=11) Y Y Y Y Y (Zd (xs:=[.tmp 44,.const (.string ⟨#[115,104,111,119]⟩),.tmp 49]) Y Y (H1) by3 ⟨Y,Y⟩) ?_
   refine QcR ?_
   refine Qep ?_
   refine Zf 53 (none) (i:=14) Y Y Y Y Y (Zd (xs:=[.tmp 43,.const (.string ⟨#[94]⟩),.tmp 52]) Y Y (H2) by3 ⟨Y,Y⟩) ?_
   refine Qeq ?_
   refine Zf 55 (none) (i:=16) Y Y Y Y Y (Zd (xs:=[.tmp 39,.const (.string ⟨#[94]⟩),.tmp 54]) Y Y (H3) by3 ⟨Y,Y⟩) ?_
   refine Qce ?_
   show AGo _ _ _ _ _ _ _
   refine QaU ?_
   refine Qg ?_
   refine QT ?_
   refine Qaj ?_
   exact ⟨(j,_),⟨by omega,hst⟩,by show j<j+1;omega,by6,by0⟩
  refine Qk ?_
  refine Qbw ?_
  refine Qao ?_
  refine QcP ?_
  refine QcP ?_
  refine Qd ?_
  first
  | rw [show aheadB cs j=⟨#[40]⟩++cs++⟨#[32]⟩ from if_pos by16] at H0 H3 hst
  | rw [show aheadB cs j=⟨#[32]⟩ from if_neg by16] at H0 H3 hst
  refine Qen ?_
  refine Qb8 ?_
  refine Qr ?_
  refine Zf 42 (none) (i:=3) Y Y Y Y Y (Zd (xs:=[.tmp 40,.tmp 41]) Y Y (H0) by3 ⟨Y,Y⟩) ?_
  refine Qb8 ?_
  refine Qaq ?_
  refine Qr ?_
  refine Zf 47 (none) (i:=8) Y Y Y Y Y (Zd (xs:=[.const (.string ⟨#[120]⟩),.tmp 46]) Y Y (HAj) by3 ⟨Y,Y⟩) ?_
  refine Zf 48 (none) (i:=9) Y Y Y Y Y (Zd (xs:=[.tmp 45,.tmp 47]) Y Y (HNj) by3 ⟨Y,Y⟩) ?_
  refine Qeo ?_
  refine Zf 50 (none) (i:=11) Y Y Y Y Y (Zd (xs:=[.tmp 44,.const (.string ⟨#[115,104,111,119]⟩),.tmp 49]) Y Y (H1) by3 ⟨Y,Y⟩) ?_
  refine QcR ?_
  refine Qep ?_
  refine Zf 53 (none) (i:=14) Y Y Y Y Y (Zd (xs:=[.tmp 43,.const (.string ⟨#[94]⟩),.tmp 52]) Y Y (H2) by3 ⟨Y,Y⟩) ?_
  refine Qeq ?_
  refine Zf 55 (none) (i:=16) Y Y Y Y Y (Zd (xs:=[.tmp 39,.const (.string ⟨#[94]⟩),.tmp 54]) Y Y (H3) by3 ⟨Y,Y⟩) ?_
  refine Qce ?_
  show AGo _ _ _ _ _ _ _
  refine QaU ?_
  refine Qg ?_
  refine QT ?_
  refine Qaj ?_
  exact ⟨(j,_),⟨by omega,hst⟩,by show j<j+1;omega,by6,by0⟩
 refine Qbd ?_
 rw [if_pos by16] at hr
 subst hr
 refine Qj ?_
 refine Qcd ?_
 refine Qa8 ?_
 refine Zb 22 Y Y Y (Zd (xs:=[.tmp 19,.tmp 21]) Y Y (HT1) by3 ?_)
 refine Qbp ?_
 refine Qo ?_
 exact Zl (i:=1) Y Y Y Ya Y by4 (Yr _) ⟨Y,Y⟩
def eachX (a:Int) (F:Nat→Ex) (cs:List Cn):Ex:=.mk 8 kE 0 ty0 [namE 3 kX a] (alF (fun k c=>.mk (patX a c.s kX c.ts.length) (F k)) 0 cs) [] a
theorem eachX_law (a:Int) (one:Nat→Cn→Dx) (F:Nat→Ex) {cs:List Cn} (hne:cs≠[]) (h:∀ k c,cs[k]?=some c→(one k c).ex a=F k):(allD num one cs).ex a=eachX a F cs:=by
 unfold allD eachX
 rw [casD_ex a _ _ hne]
 have e:∀ (l:List Cn) (k:Nat),(∀ j c,l[j]?=some c→(one (k+j) c).ex a=F (k+j))→alF (fun k c=>Al.mk (paX a (allG num one k c).1) ((allG num one k c).2.ex a)) k l=alF (fun k c=>.mk (patX a c.s kX c.ts.length) (F k)) k l:=by
  intro l
  induction l with
  | nil=>intro k _;rfl
  | cons c l ih =>
   intro k hk
   rw [alF,alF,ih (k+1) (fun j c' hj=>by
    have:=hk (j+1) c' (by simpa using hj)
    rw [show k+(j+1)=k+1+j by omega] at this
    exact this)]
   have h0:=hk 0 c by17
   rw [Nat.add_zero] at h0
   unfold allG
   simp only []
   rw [patX_law,h0]
 rw [e cs 0 (fun j c hj=>by rw [Nat.zero_add];exact h j c hj)]
 rfl
theorem m_each_c (d:Da) (a:Int) (f:FuncId) (F:Nat→Ex) (hF:∀ i,i<d.cs.length→PCall Try.prog f [.agg (mkC d a),.val (.int .i64 i)] (.agg (F i).cells)) (hn:∀ c∈d.cs,c.ts.length≤1000000) (hd:d.cs.length≤1000000):PCall Try.prog 11 [.agg (mkC d a),.clo (.func f) [.agg (mkC d a)] []] (.agg (eachX a F d.cs).cells):=by
 have HY:=m_name_c d a kX
 have HP:=fun c h2=>m_pattern_c d a c kX by15 h2
 have HC:=m_cases_c d a (namE 3 kX a) (alF (fun k c=>.mk (patX a c.s kX c.ts.length) (F k)) 0 d.cs)
 obtain ⟨ds,dps,dcs,ddv,dp⟩:=d
 replace hn:∀ c∈dcs,c.ts.length≤1000000:=hn
 replace hd:dcs.length≤1000000:=hd
 replace hF:∀ i,i<dcs.length→PCall Try.prog f [.agg (mkC (Da.mk ds dps dcs ddv dp) a),.val (.int .i64 i)] (.agg (F i).cells):=hF
 show PCall Try.prog _ _ (.agg (eachX a F dcs).cells)
 replace HC:PCall Try.prog 25 [.agg (mkC (Da.mk ds dps dcs ddv dp) a),.agg (namE 3 kX a).cells,.seq 16 (Al.cellss (alF (fun k c=>.mk (patX a c.s kX c.ts.length) (F k)) 0 dcs))] (.agg (eachX a F dcs).cells):=HC
 have hlc:=Cn.cellss_len dcs
 unfold mkC eachX at *
 simp only [Da.cells,List.cons_append,List.nil_append] at *
 refine Zc Try.func11 Y (by kernel_rfl) Y (Xb Y) ?_
 refine Qb7 ?_;intro b4
 refine Qa ?_
 refine QC ?_
 refine QE ?_
 refine Qn ?_
 refine QaS ?_
 refine Ql ?_
 refine Qbq ?_;intro n11
 refine QbF ?_
 refine c_ownNew 54 16 ?_
 apply Yn (rg [(0,1),(3,1),(5,5),(12,16)]) (σ:=Nat × Value) (fun zz=>match zz with|(k,u)=>[(12,.val (.int .i64 k)),(5,.own u 16 (Al.cellss (alF (fun k c=>.mk (patX a c.s kX c.ts.length) (F k)) 0 (dcs.take k))))]) (fun zz=>match zz with|(k,u)=>[.loc b4 zEx,.own 54 16 u]) (fun zz=>match zz with|(k,u)=>k≤dcs.length) (fun zz=>match zz with|(k,u)=>dcs.length - k) ((0,.slice none 0 0))
 ·repeat' (first|exact Xe|apply Xc rfl|apply Xd rfl)
 ·exact Nat.zero_le _
 ·exact Yy Y (Yv _) (Yy Y (Le.nilOwn 16) (SLe.nil _))
 ·exact (Yu Y)
 rintro ⟨k,u⟩ hI
 try dsimp only [List.cons_append,List.nil_append] at hI ⊢
 have hk:=hI
 have hal:(Al.cellss (alF (fun k c=>.mk (patX a c.s kX c.ts.length) (F k)) 0 (dcs.take k))).length≤1000000:=by
  rw [Al.cellss_map,List.length_map,alF_len,List.length_take];omega
 refine QbG ?_;intro c13 h13
 refine QL ?_
 obtain ⟨rfl,g13⟩|⟨rfl,g13⟩:=Za h13
 ·refine QN ?_
  rw [List.take_of_length_le by16]
  refine Qdn ?_
  refine Qb8 ?_
  refine Zf 30 (none) (i:=2) Y Y Y Y Y (Zd (xs:=[.tmp 29,.const (.string ⟨#[120]⟩)]) Y Y (HY) by3 ⟨Y,Y⟩) ?_
  refine Qr ?_
  refine Zf 32 (none) (i:=4) Y Y Y Y Y (Zd (xs:=[.tmp 28,.tmp 30,.tmp 31]) Y Y (HC) by3 ⟨Y,Y⟩) ?_
  refine Qce ?_
  show AGo _ _ _ _ _ _ _
  refine QV ?_
  exact Zl (i:=0) Y Y Y Ya Y by4 (Yr _) ⟨Y,Y⟩
 refine QI ?_
 obtain ⟨⟨qs,qts,qp⟩,hxq⟩:=Zn (l:=dcs) (i:=k) by9
 have hcq:=Cn.cellss_get hxq
 have hmq:=Xf hxq
 have hnq:qts.length≤1000000:=hn _ hmq
 have hsn:=Yk hxq
 have htl:(dcs.take k).length=k:=by rw [List.length_take];omega
 have HPE:PCall Try.prog 24 _ (.agg (patX a qs kX qts.length).cells):=HP (Cn.mk qs qts qp) hnq
 have HFk:=hF k by16
 obtain ⟨⟨ok,os,on,⟨otk,ots,otn,otl⟩,oks,oal,obs,op⟩,ho⟩:∃ r,F k=r:=⟨_,rfl⟩
 rw [ho] at HFk
 unfold patX at HPE
 simp only [Cn.cells] at HPE
 refine Qg ?_
 refine QcS ?_
 refine Qcg ?_
 refine Qch ?_;intro b7
 refine QaR ?_
 refine Qci ?_
 refine Qa ?_
 refine Qg ?_
 refine Qcd ?_
 refine Zb 19 Y Y Y (Zx (cs':=[_,_,_]) (i:=0) Y ta_43 Y Y Y Y (Zb 20 Y Y Y (Zd (xs:=[.tmp 18,.tmp 19,.const (.string ⟨#[120]⟩)]) Y Y (HPE) by3 ?_)))
 refine QaF ?_
 refine Zb 23 Y Y Y (op_callvpp (xs:=[.tmp 22]) Y Y Y (HFk) by3 ?_)
 refine Zb 24 Y Y Y (Zi (ns:=[0,1]) (xs:=[.tmp 20,.tmp 23]) (cs':=[_,_,_,_,_,_,_,_,_,_,_,_,_,_,_,_]) Y tz_54 Y tfl_54 Y Y Y Y (Zb 25 Y Y Y (Ze (xs:=[.tmp 24]) el_45 Y Y Y Y Y Y (Xb Y) (Zb 26 Y Y Y (Zu (i:=2) el_45 Y Y Y Y (.seq _ _) by8 ?_)))))
 intro u26
 refine QbM ?_
 refine Qa1 ?_
 exact ⟨(k+1,u26),by show k+1≤dcs.length;omega,by show dcs.length - (k+1)<dcs.length - k;omega,Yy Y (Yv _) (Yy Y (Xa (by rw [hsn,alF_snoc,Al.cellss_snoc,htl,show 0+k=k by omega,ho];rfl)) by6),(Yt _ (Yu Y))⟩
abbrev kcEq:ByteArray:=⟨#[69,113]⟩
abbrev kcOrd:ByteArray:=⟨#[79,114,100]⟩
abbrev kcShow:ByteArray:=⟨#[83,104,111,119]⟩
def eqB (a:Int) (cs:List Cn):Ex:=lamE a [kX,kY] (eachX a (fun i=>match cs[i]? with|some c=>eqXX a c.s c.ts.length cs.length|none=>namE 3 kX a) cs)
def ordB (a:Int) (cs:List Cn):Ex:=lamE a [kX,kY] (eachX a (fun i=>cmpXX a i cs) cs)
def showB (a:Int) (cs:List Cn):Ex:=lamE a [kX] (eachX a (fun i=>match cs[i]? with|some c=>showXX a c.s c.ts.length|none=>namE 3 kX a) cs)
theorem eqB_law (a:Int) {cs:List Cn} (h:cs≠[]):eqX num a cs=eqB a cs:=by
 unfold eqX eqB
 rw [Dx.ex]
 rw [eachX_law a (fun _ c=>eqD num c.s c.ts.length cs.length) (fun i=>match cs[i]? with|some c=>eqXX a c.s c.ts.length cs.length|none=>namE 3 kX a) h (fun k c hk=>by
  rw [hk];exact eqXX_law a c.s c.ts.length cs.length)]
 rfl
theorem ordB_law (a:Int) {cs:List Cn} (h:cs≠[]):ordX num a cs=ordB a cs:=by
 unfold ordX ordB
 rw [Dx.ex]
 rw [eachX_law a (fun i _=>cmpD num i cs) (fun i=>cmpXX a i cs) h (fun k c hk=>cmpXX_law a k h)]
 rfl
theorem showB_law (a:Int) {cs:List Cn} (h:cs≠[]):showX num a cs=showB a cs:=by
 unfold showX showB
 rw [Dx.ex]
 rw [eachX_law a (fun _ c=>showD num c) (fun i=>match cs[i]? with|some c=>showXX a c.s c.ts.length|none=>namE 3 kX a) h (fun k c hk=>by
  rw [hk];exact showXX_law a c)]
 rfl
def bindX (a:Int) (cs:List Cn) (cl:ByteArray):Option (ByteArray × Ex):=if cl=kcEq then some (kEqN,eqB a cs) else if cl=kcOrd then some (kCmp,ordB a cs) else if cl=kcShow then some (kShw,showB a cs) else none
def parT (s:ByteArray):Ty:=.mk 1 s 0 []
def instX (d:Da) (cl nm:ByteArray) (e:Ex):In:=.mk cl (.mk 3 d.s 0 (d.ps.map parT)) (d.ps.map fun s=>.mk cl (parT s)) [.mk nm e d.p] d.p
def in0:In:=.mk kE ty0 [] [] 0
def instR (d:Da) (cl:ByteArray):In × Int:=match bindX d.p d.cs cl with|some (nm,e)=>(instX d cl nm e,0)|none=>(in0,121)
structure DaS (d:Da):Prop where
 len:d.cs.length≤250
 ps:d.ps.length≤1000000
 cn:∀ c∈d.cs,c.ts.length≤1000000∧c.s.size≤1000000
theorem Ty.cellss_app1 (l:List Ty) (s:ByteArray):Less (Ty.cellss l++[[.val (.int .i64 1),.val (.string s),.val (.int .i64 0),.val (.slice none 0 0)]]) (Ty.cellss (l++[parT s])):=by
 rw [show Ty.cellss (l++[parT s])=Ty.cellss l++[[.val (.int .i64 1),.val (.string s),.val (.int .i64 0),.seq 4 []]] by rw [Ty.cellss_map,Ty.cellss_map,List.map_append];rfl]
 exact Less.snoc (Yx (Yv _) (Yx (Yv _) (Yx (Yv _) (Yx (Le.nil _) (Yw _))))) Y _
theorem Inst_c (d:Da) (hd:DaS d) (cl:ByteArray):PCall Try.prog 6 [.agg d.cells,.val (.string cl)] (.tup [.agg (instR d cl).1.cells,.val (.int .i64 (instR d cl).2)]):=by
 obtain ⟨hd1,hd2,hd3⟩:=hd
 have hcn:∀ c∈d.cs,c.ts.length≤1000000:=fun c h=>(hd3 c h).1
 have HE1:=m_each_c d d.p 12 (fun i=>match d.cs[i]? with|some c=>eqXX d.p c.s c.ts.length d.cs.length|none=>namE 3 kX d.p) (fun i hi=>by
  obtain ⟨c,hc⟩:=Zn (l:=d.cs) hi
  simp only [hc]
  exact m_eq_c d d.p i c hc (hcn c (Xf hc))) hcn by16
 have HE2:=m_each_c d d.p 13 (fun i=>cmpXX d.p i d.cs) (fun i hi=>m_compare_c d d.p i hcn by16) hcn by16
 have HE3:=m_each_c d d.p 14 (fun i=>match d.cs[i]? with|some c=>showXX d.p c.s c.ts.length|none=>namE 3 kX d.p) (fun i hi=>by
  obtain ⟨c,hc⟩:=Zn (l:=d.cs) hi
  simp only [hc]
  exact m_show_c d d.p i c hc (hcn c (Xf hc)) (hd3 c (Xf hc)).2) hcn by16
 have HL1:=m_lambda_c d d.p (eachX d.p (fun i=>match d.cs[i]? with|some c=>eqXX d.p c.s c.ts.length d.cs.length|none=>namE 3 kX d.p) d.cs) [kX,kY]
 have HL2:=m_lambda_c d d.p (eachX d.p (fun i=>cmpXX d.p i d.cs) d.cs) [kX,kY]
 have HL3:=m_lambda_c d d.p (eachX d.p (fun i=>match d.cs[i]? with|some c=>showXX d.p c.s c.ts.length|none=>namE 3 kX d.p) d.cs) [kX]
 obtain ⟨r,hr⟩:∃ r,instR d cl=r:=⟨_,rfl⟩
 rw [hr]
 unfold instR at hr
 obtain ⟨ds,dps,dcs,ddv,dp⟩:=d
 replace hd1:dcs.length≤250:=hd1
 replace hd2:dps.length≤1000000:=hd2
 obtain ⟨bx,hbx⟩:∃ b,bindX dp dcs cl=b:=⟨_,rfl⟩
 replace hr:(match bindX dp dcs cl with|some (nm,e)=>(instX (Da.mk ds dps dcs ddv dp) cl nm e,(0:Int))|none=>(in0,121))=r:=hr
 rw [hbx] at hr
 unfold bindX at hbx
 have eB1:lamE dp [kX,kY] (eachX dp (fun i=>match dcs[i]? with|some c=>eqXX dp c.s c.ts.length dcs.length|none=>namE 3 kX dp) dcs)=eqB dp dcs:=rfl
 have eB2:lamE dp [kX,kY] (eachX dp (fun i=>cmpXX dp i dcs) dcs)=ordB dp dcs:=rfl
 have eB3:lamE dp [kX] (eachX dp (fun i=>match dcs[i]? with|some c=>showXX dp c.s c.ts.length|none=>namE 3 kX dp) dcs)=showB dp dcs:=rfl
 simp only [Da.p,Da.cs] at HE1 HE2 HE3 HL1 HL2 HL3
 rw [eB1] at HL1
 rw [eB2] at HL2
 rw [eB3] at HL3
 clear eB1 eB2 eB3 hd3 hcn
 generalize eachX dp (fun i=>match dcs[i]? with|some c=>eqXX dp c.s c.ts.length dcs.length|none=>namE 3 kX dp) dcs=x1 at HE1 HL1
 generalize eachX dp (fun i=>cmpXX dp i dcs) dcs=x2 at HE2 HL2
 generalize eachX dp (fun i=>match dcs[i]? with|some c=>showXX dp c.s c.ts.length|none=>namE 3 kX dp) dcs=x3 at HE3 HL3
 generalize eqB dp dcs=e1 at HL1 hbx
 generalize ordB dp dcs=e2 at HL2 hbx
 generalize showB dp dcs=e3 at HL3 hbx
 obtain ⟨x1k,x1s,x1n,⟨x1tk,x1ts,x1tn,x1tl⟩,x1ks,x1al,x1bs,x1p⟩:=x1
 obtain ⟨x2k,x2s,x2n,⟨x2tk,x2ts,x2tn,x2tl⟩,x2ks,x2al,x2bs,x2p⟩:=x2
 obtain ⟨x3k,x3s,x3n,⟨x3tk,x3ts,x3tn,x3tl⟩,x3ks,x3al,x3bs,x3p⟩:=x3
 obtain ⟨e1k,e1s,e1n,⟨e1tk,e1ts,e1tn,e1tl⟩,e1ks,e1al,e1bs,e1p⟩:=e1
 obtain ⟨e2k,e2s,e2n,⟨e2tk,e2ts,e2tn,e2tl⟩,e2ks,e2al,e2bs,e2p⟩:=e2
 obtain ⟨e3k,e3s,e3n,⟨e3tk,e3ts,e3tn,e3tl⟩,e3ks,e3al,e3bs,e3p⟩:=e3
 have hlc:=Cn.cellss_len dcs
 have hlp:=strs_len dps
 unfold mkC at *
 simp only [Da.cells,List.cons_append,List.nil_append] at *
 refine Zc Try.func6 Y (by kernel_rfl) Y (Xb Y) ?_
 refine Qb9 ?_
 refine Qcy ?_;intro b4
 refine Qd ?_
 refine Qn ?_
 refine Qbr ?_
 refine Ql ?_
 refine Zb 15 Y Y Y (Zi (ns:=[0,1]) (xs:=[.tmp 12,.tmp 14]) (cs':=[_,_,_,_,_,_]) Y tz_56 Y tfl_56 Y Y Y Y (Zb 6 Y Y Y (op_alloce (cs':=[_,_,_,_,_,_]) Y tz_56 Y Y ?_)));intro b6
 refine Zq Y Y (Zm (cs':=[_,_,_,_,_,_]) (i:=0) Y ts_56 Y Y Y Y Y (Xb Y) Y ?_)
 refine QG ?_
 refine Ql ?_
 refine Zb 18 Y Y Y (Zi (ns:=[2]) (xs:=[.tmp 17]) (cs':=[_,_,_,_,_,_,_,_,_,_,_,_,_]) Y tz_49 Y tfl_49 Y Y Y Y ?_)
 refine Qed ?_;intro b7
 refine Zq Y Y (Zm (cs':=[_,_,_,_,_,_,_,_,_,_,_,_,_]) (i:=0) Y ts_49 Y Y Y Y Y (Xb Y) Y ?_)
 refine QL ?_
 refine Qaw ?_
 refine Qbq ?_;intro n21
 refine Q8 ?_;intro c22 h22
 refine Qb ?_
 obtain ⟨rfl,g22⟩|⟨rfl,g22⟩:=Za h22
 ·skip
  refine Qad ?_
  refine QaC ?_
  refine QZ ?_
  refine QaC ?_
  refine Q1 ?_
  refine Qcz ?_
  refine Qa ?_
  refine Qav ?_
  refine Qa ?_
  apply c_joink (rg [(0,1),(3,1),(5,2),(9,1),(12,22),(35,36)]) (σ:=ByteArray × Ex) (fun zz=>match zz with|(nm,e)=>[]) (fun zz=>match zz with|(nm,e)=>[.loc b7 (Bi.mk nm e dp).cells,.loc b4 zIn]) (fun zz=>match zz with|(nm,e)=>bx=some (nm,e))
  ·repeat' (first|exact Xe|apply Xc rfl|apply Xd rfl)
  ·skip
   refine Qa3 ?_
   refine Qn ?_
   refine Qay ?_;intro c39 h39
   refine Qd ?_
   obtain ⟨rfl,g39⟩|⟨rfl,g39⟩:=Za h39
   ·refine QP ?_
    refine Qn ?_
    refine Qay ?_;intro c50 h50
    refine Qd ?_
    obtain ⟨rfl,g50⟩|⟨rfl,g50⟩:=Za h50
    ·refine QP ?_
     refine Qn ?_
     refine Qay ?_;intro c61 h61
     refine Qd ?_
     obtain ⟨rfl,g61⟩|⟨rfl,g61⟩:=Za h61
     ·refine QP ?_
      refine Qn ?_
      refine Qer ?_
      refine Zq Y Y (Zm (cs':=[_,_,_,_,_,_,_,_]) (i:=2) Y ts_34 Y Y Y Y Y (Xb Y) Y ?_)
      refine Qd ?_
      rw [if_neg g39,if_neg g50,if_neg g61] at hbx
      subst hbx
      replace hr:(in0,(121:Int))=r:=hr
      subst hr
      refine c_retj ?_
      exact out_ct (i:=2) Y Y Y Y ta_34 Y by2 (Yr _) ⟨Y,Y⟩
     refine Qk ?_
     refine QdK ?_
     refine QbL ?_
     refine QbL ?_
     refine QbL ?_
     refine Zf 65 (none) (i:=3) Y Y Y Y Y (op_makeFunc (fs:=[.tmp 64]) (cs:=[]) Y Y Y ⟨Y,Y⟩) ?_
     refine Zf 66 (none) (i:=4) Y Y Y Y Y (Zd (xs:=[.tmp 63,.tmp 65]) Y Y (HE3) by3 ⟨Y,Y⟩) ?_
     refine Zf 67 (none) (i:=5) Y Y Y Y Y (Ze (xs:=[.const (.string ⟨#[120]⟩)]) el_22 Y Y Y Y Y Y (Xb Y) ⟨Y,Y⟩) ?_
     refine Zf 68 (none) (i:=6) Y Y Y Y Y (Zd (xs:=[.tmp 62,.tmp 66,.tmp 67]) Y Y (HL3) by3 ⟨Y,Y⟩) ?_
     refine QR ?_
     refine QdL ?_
     refine QR ?_
     refine QdM ?_
     show AGo _ _ _ _ _ _ _
     refine Qak ?_
     first
     |(rw [if_pos g39] at hbx;exact ⟨(kEqN,.mk e1k e1s e1n ⟨e1tk,e1ts,e1tn,e1tl⟩ e1ks e1al e1bs e1p),hbx.symm,by6,by1⟩)
     |(rw [if_neg g39,if_pos g50] at hbx;exact ⟨(kCmp,.mk e2k e2s e2n ⟨e2tk,e2ts,e2tn,e2tl⟩ e2ks e2al e2bs e2p),hbx.symm,by6,by1⟩)
     |(rw [if_neg g39,if_neg g50,if_pos g61] at hbx;exact ⟨(kShw,.mk e3k e3s e3n ⟨e3tk,e3ts,e3tn,e3tl⟩ e3ks e3al e3bs e3p),hbx.symm,by6,by1⟩)
    refine Qk ?_
    refine QdK ?_
    refine QbL ?_
    refine QbL ?_
    refine QbL ?_
    refine Zf 54 (none) (i:=3) Y Y Y Y Y (op_makeFunc (fs:=[.tmp 53]) (cs:=[]) Y Y Y ⟨Y,Y⟩) ?_
    refine Zf 55 (none) (i:=4) Y Y Y Y Y (Zd (xs:=[.tmp 52,.tmp 54]) Y Y (HE2) by3 ⟨Y,Y⟩) ?_
    refine Qes ?_
    refine Zf 57 (none) (i:=6) Y Y Y Y Y (Zd (xs:=[.tmp 51,.tmp 55,.tmp 56]) Y Y (HL2) by3 ⟨Y,Y⟩) ?_
    refine QR ?_
    refine QdL ?_
    refine QR ?_
    refine QdM ?_
    show AGo _ _ _ _ _ _ _
    refine Qak ?_
    first
    |(rw [if_pos g39] at hbx;exact ⟨(kEqN,.mk e1k e1s e1n ⟨e1tk,e1ts,e1tn,e1tl⟩ e1ks e1al e1bs e1p),hbx.symm,by6,by1⟩)
    |(rw [if_neg g39,if_pos g50] at hbx;exact ⟨(kCmp,.mk e2k e2s e2n ⟨e2tk,e2ts,e2tn,e2tl⟩ e2ks e2al e2bs e2p),hbx.symm,by6,by1⟩)
    |(rw [if_neg g39,if_neg g50,if_pos g61] at hbx;exact ⟨(kShw,.mk e3k e3s e3n ⟨e3tk,e3ts,e3tn,e3tl⟩ e3ks e3al e3bs e3p),hbx.symm,by6,by1⟩)
   refine Qk ?_
   refine QdK ?_
   refine QbL ?_
   refine QbL ?_
   refine QbL ?_
   refine Zf 43 (none) (i:=3) Y Y Y Y Y (op_makeFunc (fs:=[.tmp 42]) (cs:=[]) Y Y Y ⟨Y,Y⟩) ?_
   refine Zf 44 (none) (i:=4) Y Y Y Y Y (Zd (xs:=[.tmp 41,.tmp 43]) Y Y (HE1) by3 ⟨Y,Y⟩) ?_
   refine Qes ?_
   refine Zf 46 (none) (i:=6) Y Y Y Y Y (Zd (xs:=[.tmp 40,.tmp 44,.tmp 45]) Y Y (HL1) by3 ⟨Y,Y⟩) ?_
   refine QR ?_
   refine QdL ?_
   refine QR ?_
   refine QdM ?_
   show AGo _ _ _ _ _ _ _
   refine Qak ?_
   first
   |(rw [if_pos g39] at hbx;exact ⟨(kEqN,.mk e1k e1s e1n ⟨e1tk,e1ts,e1tn,e1tl⟩ e1ks e1al e1bs e1p),hbx.symm,by6,by1⟩)
   |(rw [if_neg g39,if_pos g50] at hbx;exact ⟨(kCmp,.mk e2k e2s e2n ⟨e2tk,e2ts,e2tn,e2tl⟩ e2ks e2al e2bs e2p),hbx.symm,by6,by1⟩)
   |(rw [if_neg g39,if_neg g50,if_pos g61] at hbx;exact ⟨(kShw,.mk e3k e3s e3n ⟨e3tk,e3ts,e3tn,e3tl⟩ e3ks e3al e3bs e3p),hbx.symm,by6,by1⟩)
  rintro ⟨nm,⟨ek,es,en,⟨etk,ets,etn,etl⟩,eks,eal,ebs,ep⟩⟩ hI
  try dsimp only [List.cons_append,List.nil_append] at hI ⊢
  rw [hI] at hr
  replace hr:(instX (Da.mk ds dps dcs ddv dp) cl nm (.mk ek es en ⟨etk,ets,etn,etl⟩ eks eal ebs ep),(0:Int))=r:=hr
  refine Qe ?_
  refine Qs ?_
  refine Ql ?_
  refine Zb 74 Y Y Y (Zi (ns:=[0,1]) (xs:=[.const (.int .i64 3),.tmp 73]) (cs':=[_,_,_,_]) Y tz_30 Y tfl_30 Y Y Y Y (Zb 75 Y Y Y (Zx (cs':=[_,_,_,_,_,_,_,_,_,_,_,_,_]) (i:=0) Y ta_49 Y Y Y Y (Zb 76 Y Y Y (Ze (xs:=[.tmp 75]) el_32 Y Y Y Y Y Y (Xb Y) ?_)))))
  refine Ql ?_
  refine Zb 79 Y Y Y (Zi (ns:=[0,1,3,4]) (xs:=[.tmp 71,.tmp 74,.tmp 76,.tmp 78]) (cs':=[_,_,_,_,_,_,_,_]) Y tz_34 Y tfl_34 Y Y Y Y ?_)
  refine Qcy ?_;intro b8
  refine QcT ?_
  refine QL ?_
  refine Qaw ?_
  refine Qcs ?_;intro n82
  refine QbF ?_
  refine c_ownNew 30 4 (c_ownNew 61 5 ?_)
  apply Yn (rg [(0,1),(2,2),(6,2),(9,25),(35,46),(83,23)]) (σ:=Nat × Value × Value) (fun zz=>match zz with|(i,u,v)=>[(83,.val (.int .i64 i))]) (fun zz=>match zz with|(i,u,v)=>[.loc b8 [.val (.string cl),.val (.int .i64 3),.val (.string ds),.val (.int .i64 0),.own u 4 (Ty.cellss ((dps.take i).map parT)),.own v 5 (Pr.cellss ((dps.take i).map fun s=>Pr.mk cl (parT s))),.seq 13 (Bi.cellss [.mk nm (.mk ek es en ⟨etk,ets,etn,etl⟩ eks eal ebs ep) dp]),.val (.int .i64 dp)],.loc b4 zIn,.own 30 4 u,.own 61 5 v]) (fun zz=>match zz with|(i,u,v)=>i≤dps.length) (fun zz=>match zz with|(i,u,v)=>dps.length - i) ((0,.slice none 0 0,.slice none 0 0))
  ·repeat' (first|exact Xe|apply Xc rfl|apply Xd rfl)
  ·exact Nat.zero_le _
  ·exact by6
  ·exact (MLe.loc _ (Yx (Yv _) (Yx (Yv _) (Yx (Yv _) (Yx (Yv _) (Yx (Le.nilOwn 4) (Yx (Le.nilOwn 5) (Yx (Yv _) (Yw _)))))))) (Yt _ (Yu Y)))
  rintro ⟨i,u,v⟩ hI
  try dsimp only [List.cons_append,List.nil_append] at hI ⊢
  have hi:=hI
  have ht1:(Ty.cellss ((dps.take i).map parT)).length≤1000000:=by rw [Ty.cellss_len,List.length_map,List.length_take];omega
  have ht2:(Pr.cellss ((dps.take i).map fun s=>Pr.mk cl (parT s))).length≤1000000:=by rw [Pr.cellss_len,List.length_map,List.length_take];omega
  refine QbG ?_;intro c84 h84
  refine QL ?_
  obtain ⟨rfl,g84⟩|⟨rfl,g84⟩:=Za h84
  ·refine QN ?_
   rw [List.take_of_length_le by16]
   subst hr
   refine Qj ?_
   refine Zb 106 Y Y Y (Zx (cs':=[_,_,_,_,_,_,_,_]) (i:=0) Y ta_34 Y Y Y Y (Zq Y Y (Zm (cs':=[_,_,_,_,_,_,_,_]) (i:=1) Y ts_34 Y Y Y Y Y (Xb Y) Y ?_)))
   refine Qu ?_
   exact out_ct (i:=1) Y Y Y Y ta_34 Y by2 (Yr _) ⟨Y,Y⟩
  refine QI ?_
  obtain ⟨q,hxq⟩:=Zn (l:=dps) (i:=i) by9
  have hcq:=strs_get hxq
  have hmq:=Xf hxq
  refine Qj ?_
  refine Qdp ?_
  refine Qck ?_
  refine QaI ?_
  refine Zb 88 Y Y Y (Zi (ns:=[0,1]) (xs:=[.const (.int .i64 1),.tmp 87]) (cs':=[_,_,_,_]) Y tz_30 Y tfl_30 Y Y Y Y ?_)
  refine Qct ?_;intro b11
  refine Qcu ?_
  refine Qa ?_
  refine QbN ?_
  refine Qx ?_
  refine Qao ?_
  refine Qcv ?_
  refine Zb 93 Y Y Y (Ze (xs:=[.tmp 92]) el_28 Y Y Y Y Y Y (Xb Y) ?_)
  refine Qet ?_
  intro u94
  refine Qx ?_
  refine Qx ?_
  refine Zq Y Y (Zm (cs':=[_,_,_,_,_,_,_,_]) (i:=1) Y ts_28 Y Y Y Y Y (Xb Y) Y ?_)
  refine Qb4 ?_
  refine Qb ?_
  refine Qcv ?_
  refine Zb 101 Y Y Y (Zi (ns:=[0,1]) (xs:=[.tmp 99,.tmp 100]) (cs':=[_,_,_,_,_]) Y tz_61 Y tfl_61 Y Y Y Y (Zb 102 Y Y Y (Ze (xs:=[.tmp 101]) el_31 Y Y Y Y Y Y (Xb Y) ?_)))
  refine Qeu ?_
  intro u103
  refine Qx ?_
  refine Zq Y Y (Zm (cs':=[_,_,_,_,_,_,_,_]) (i:=1) Y ts_31 Y Y Y Y Y (Xb Y) Y ?_)
  refine Q0 ?_
  refine Qa1 ?_
  have hsn:=Yk hxq
  exact ⟨(i+1,u94,u103),by show i+1≤dps.length;omega,by show dps.length - (i+1)<dps.length - i;omega,by6,Yt _ (MLe.loc _ (Yx (Yv _) (Yx (Yv _) (Yx (Yv _) (Yx (Yv _) (Yx (by rw [hsn,List.map_append];exact Le.own_less (Ty.cellss_app1 _ _)) (Yx (by rw [hsn,List.map_append];exact preds_snoc _ _ _) (Yx (Yv _) (Yw _)))))))) (Yu Y))⟩
 exact absurd g22 by16
theorem strOfNums_app (a b:List Int):strOfNums a++strOfNums b=strOfNums (a++b):=by
 apply ByteArray.ext
 simp [strOfNums,ByteArray.data_append]
theorem Le.int_eq {k:IntKind} {a b:Int} (h:a=b):Le (.val (.int k a)) (.val (.int k b)):=by rw [h];exact Yv _
theorem Digits_c (U:Nat) (hU:U<10 ^ 20) (hU2:U≤18446744073709551615):PCall Try.prog 66 [.val (.int .u64 U)] (.val (.string (strOfNums (digs 20 U [])))):=by
 refine Zc Try.func66 Y (by kernel_rfl) Y (Xb Y) ?_
 refine Qat ?_
 refine QC ?_
 refine Qa7 ?_
 refine c_loop (σ:=Nat × Nat × List Int) (fun zz=>match zz with|(u,f,acc)=>[(0,.val (.int .u64 u)),(3,.val (.string (strOfNums acc)))]) (fun zz=>match zz with|(u,f,acc)=>[]) (fun zz=>match zz with|(u,f,acc)=>u<10 ^ (f+1)∧f+1+acc.length=20∧u≤18446744073709551615∧digs (f+1) u acc=digs 20 U []) (fun zz=>match zz with|(u,f,acc)=>u) ((U,19,[])) ?_ ?_ ?_ ?_
 ·exact ⟨hU,Y,hU2,Y⟩
 ·exact by6
 ·exact by5
 rintro ⟨u,f,acc⟩ hI
 try dsimp only [List.cons_append,List.nil_append] at hI ⊢
 obtain ⟨h1,h2,h3,h4⟩:=hI
 have hsz:=strOfNums_size acc
 have hs1:∀ x:Int,(strOfNums [x]).size=1:=fun x=>strOfNums_size [x]
 refine QU ?_
 refine Q8 ?_;intro c5 h5
 refine Qa ?_
 obtain ⟨rfl,g5⟩|⟨rfl,g5⟩:=Za h5
 ·refine QN ?_
  have hs2:=hs1 (48+(u:Int))
  rw [digs,if_pos by16] at h4
  refine Qg ?_
  refine Zb 17 Y Y Y (op_add Y Y Y (IntWalk.u64_in _ by16) ?_)
  refine Qev ?_
  refine Zb 19 Y Y Y (Ze (xs:=[.tmp 18]) el_109 Y Y Y Y Y Y (Xb Y) (Zb 20 Y Y Y (op_bytestr (xs:=[48+(u:Int)]) Y tu_109 tu_5 tu_9 Y (.seq 1 _) by17 ?_)))
  refine Qb ?_
  refine QcP ?_
  refine Qu ?_
  refine Zg Y Y (Yv _) by5 ⟨?_,Y⟩
  rw [← h4,strOfNums_app,show (u:Int) % 10=u from by omega]
  rfl
 refine QaG ?_
 refine QE ?_
 have hs2:=hs1 (48+(u:Int) % 10)
 refine Qg ?_
 refine Zb 7 Y Y Y (op_rem Y Y Y by16 (Int.tmod_eq_emod_of_nonneg by16) ?_)
 refine Zb 8 Y Y Y (op_add Y Y Y (IntWalk.u64_in _ by16) ?_)
 refine Qev ?_
 refine Zb 10 Y Y Y (Ze (xs:=[.tmp 9]) el_109 Y Y Y Y Y Y (Xb Y) (Zb 11 Y Y Y (op_bytestr (xs:=[48+(u:Int) % 10]) Y tu_109 tu_5 tu_9 Y (.seq 1 _) by17 ?_)))
 refine Qb ?_
 refine QcP ?_
 refine Qd ?_
 refine Qg ?_
 refine Zb 15 Y Y Y (op_quo Y Y Y by16 (IntWalk.u64_quo _ _ by16) ?_)
 refine Qbb ?_
 obtain ⟨f,rfl⟩:∃ f',f=f'+1:=by
  cases f with
  | zero=>simp at h1;omega
  | succ f=>exact ⟨f,rfl⟩
 rw [digs,if_neg by16] at h4
 refine ⟨(u / 10,f,(48+(u:Int) % 10)::acc),⟨(show u / 10<10 ^ (f+1) from Nat.div_lt_of_lt_mul (by rw [Nat.pow_succ,Nat.mul_comm] at h1;exact h1)),by simp at h2 ⊢;omega,by simp;omega,h4⟩,by simp;omega,?_,by5⟩
 refine Yy Y (Le.int_eq by17) (Yy Y ?_ (SLe.nil _))
 rw [strOfNums_app]
 exact Yv _
theorem RWrapA_c (n:Int):PCall Try.prog 65 [.val (.int .i64 n)] (.val (.int .i64 (W63 n))) :=
 PCall.of_calls (vs:=[.int .i64 n]) (enters_of Try.func65 (by kernel_rfl) rfl) (fun w=>(RWrap_c n w).mono (by rintro e w' ⟨rfl,rfl⟩;exact ⟨rfl,Below.refl _ _⟩))
theorem sizeA_c (n:Int) (h1 : -9223372036854775808≤n) (h2:n≤9223372036854775807):PCall Try.prog 67 [.val (.int .i64 n)] (.val (.int .u64 (absI n))) :=
 PCall.of_calls (vs:=[.int .i64 n]) (enters_of Try.func67 (by kernel_rfl) rfl) (fun w=>(size_c n w h1 h2).mono (by rintro e w' ⟨rfl,rfl⟩;exact ⟨rfl,Below.refl _ _⟩))
theorem rText_c (n:Int):PCall Try.prog 50 [.val (.int .i64 n)] (.val (.string (txt (W63 n)))):=by
 have hb:=W63_bd n
 have ha:=absI_W63 n
 have HW:=RWrapA_c n
 generalize W63 n=z at *
 obtain ⟨U,hU⟩:∃ U:Nat,absI z=U:=⟨(absI z).toNat,by have:=absI_lo z;omega⟩
 have HS:=sizeA_c z by16 by16
 rw [hU] at HS ha
 have HD:=Digits_c U by16 by16
 have hl:=digs_le 20 U []
 simp only [List.length_nil] at hl
 have hsz:=strOfNums_size (digs 20 U [])
 have hq:(if z<0 then (-z).toNat else z.toNat)=U:=by unfold absI at hU;split <;> rename_i h <;> simp [h] at hU <;> omega
 have hT:txt z=if z<0 then strOfNums [45]++strOfNums (digs 20 U []) else strOfNums (digs 20 U []):=by
  unfold txt
  split <;> rename_i h
  ·rw [if_pos h] at hq;rw [hq,strOfNums_app];rfl
  rw [if_neg h] at hq;rw [hq]
 rw [hT]
 generalize strOfNums (digs 20 U [])=ds at *
 clear hT hq
 have h45:(⟨#[45]⟩:ByteArray).size=1:=rfl
 refine Zc Try.func50 Y (by kernel_rfl) Y (Xb Y) ?_
 refine Qat ?_
 refine Qs ?_
 refine Zb 5 Y Y Y (Zd (xs:=[.tmp 4]) Y Y (HW) by3 ?_)
 refine Qbz ?_
 refine Qm ?_;intro c7 h7
 refine Qa ?_
 obtain ⟨rfl,g7⟩|⟨rfl,g7⟩:=Za h7
 ·refine Q3 ?_
  refine Zb 13 Y Y Y (Zd (xs:=[.tmp 12]) Y Y (HS) by3 ?_)
  refine Zb 14 Y Y Y (Zd (xs:=[.tmp 13]) Y Y (HD) by3 ?_)
  refine Qu ?_
  exact Zg Y Y (Yv _) by5 ⟨by rw [if_neg g7],Y⟩
 refine QaH ?_
 refine Zb 9 Y Y Y (Zd (xs:=[.tmp 8]) Y Y (HS) by3 ?_)
 refine Zb 10 Y Y Y (Zd (xs:=[.tmp 9]) Y Y (HD) by3 ?_)
 refine QcP ?_
 refine Qu ?_
 exact Zg Y Y (Yv _) by5 ⟨by rw [if_pos g7];rfl,Y⟩
structure NmT (nm:Nat→ByteArray):Prop where
 tx:∀ i:Nat,PCall Try.prog 50 [.val (.int .i64 ((i:Int)+1))] (.val (.string (nm i)))
 sz:∀ i,i<8→(nm i).size=1
theorem num_t:NmT num:=⟨fun i=>rText_c ((i:Int)+1),num_size⟩
theorem Le.str {a b:ByteArray} (h:a=b):Le (.val (.string a)) (.val (.string b)):=by subst h;exact Yv _
theorem args_c {nm:Nat→ByteArray} (hm:NmT nm) (c:Cn) (of:ByteArray) (ho:of.size≤1) (hn:c.ts.length≤8):PCall Try.prog 33 [.agg c.cells,.val (.string of)] (.val (.string (argsT nm of c.ts.length))):=by
 have HT:=hm.tx
 have hsz:=hm.sz
 have hAS:=args_size hm.sz ho
 obtain ⟨cs,cts,cp⟩:=c
 replace hn:cts.length≤8:=hn
 show PCall Try.prog _ _ (.val (.string (argsT nm of cts.length)))
 have hl:=Ty.cellss_len cts
 have z1:(⟨#[32,95]⟩:ByteArray).size=2:=rfl
 have z2:(⟨#[32]⟩:ByteArray).size=1:=rfl
 refine Zc Try.func33 Y (by kernel_rfl) Y (Xb Y) ?_
 refine Qv ?_
 refine Qcf ?_
 refine Qd ?_
 refine QC ?_
 refine QE ?_
 refine QM ?_
 apply Zw (rg [(0,1),(3,1),(5,21)]) (σ:=Nat) (fun zz=>match zz with|i=>[(6,.val (.int .i64 i)),(5,.val (.string (argsT nm of i)))]) (fun zz=>match zz with|i=>i≤cts.length) (fun zz=>match zz with|i=>cts.length - i) (0)
 ·repeat' (first|exact Xe|apply Xc rfl|apply Xd rfl)
 ·exact Nat.zero_le _
 ·exact Yy Y (Yv _) (Yy Y (Yv _) (SLe.nil _))
 rintro i hI
 try dsimp only [List.cons_append,List.nil_append] at hI ⊢
 have hi:=hI
 refine Q6 ?_
 refine QY ?_;intro n10
 refine Qm ?_;intro c11 h11
 refine Qa ?_
 obtain ⟨rfl,g11⟩|⟨rfl,g11⟩:=Za h11
 ·refine QN ?_
  obtain rfl:i=cts.length:=by omega
  refine Qg ?_
  refine Qu ?_
  exact Zg Y Y (Yv _) (Yr _) ⟨Y,Y⟩
 refine QI ?_
 have hz1:=hAS i by16
 have hz2:=hsz i by16
 have HTi:=HT i
 have hst:argsT nm of (i+1)=if of=kE then argsT nm of i++⟨#[32,95]⟩ else argsT nm of i++⟨#[32]⟩++of++nm i:=by rw [argsT]
 refine Qg ?_
 refine Qay ?_;intro c15 h15
 refine Qa ?_
 obtain ⟨rfl,g15⟩|⟨rfl,g15⟩:=Za h15
 ·refine QP ?_
  refine Qg ?_
  refine Qy ?_
  refine Qb ?_
  refine Qy ?_
  refine Qb ?_
  refine Qax ?_
  refine Zb 24 Y Y Y (Zd (xs:=[.tmp 23]) Y Y (HTi) by3 ?_)
  refine Qy ?_
  refine Qam ?_
  first
  |(rw [if_pos g15] at hst;exact ⟨i+1,by show i+1≤cts.length;omega,by show cts.length - (i+1)<cts.length - i;omega,Yy rfl (Yv _) (Yy rfl (Le.str hst.symm) by6),by5⟩)
  |(rw [if_neg g15] at hst;exact ⟨i+1,by show i+1≤cts.length;omega,by show cts.length - (i+1)<cts.length - i;omega,Yy rfl (Yv _) (Yy rfl (Le.str hst.symm) by6),by5⟩)
 refine QaM ?_
 refine Qy ?_
 refine Qam ?_
 first
 |(rw [if_pos g15] at hst;exact ⟨i+1,by show i+1≤cts.length;omega,by show cts.length - (i+1)<cts.length - i;omega,Yy rfl (Yv _) (Yy rfl (Le.str hst.symm) by6),by5⟩)
 |(rw [if_neg g15] at hst;exact ⟨i+1,by show i+1≤cts.length;omega,by show cts.length - (i+1)<cts.length - i;omega,Yy rfl (Yv _) (Yy rfl (Le.str hst.symm) by6),by5⟩)
theorem two_c {nm:Nat→ByteArray} (hm:NmT nm) (f:ByteArray) (hf:f.size≤10) (i:Nat) (hi:i<8):PCall Try.prog 51 [.val (.string f),.val (.int .i64 i)] (.val (.string (twoT nm f i))):=by
 have HT:=hm.tx i
 have hsz:=hm.sz i hi
 unfold twoT
 have z1:(⟨#[32,120]⟩:ByteArray).size=2:=rfl
 have z2:(⟨#[32,121]⟩:ByteArray).size=2:=rfl
 refine Zc Try.func51 Y (by kernel_rfl) Y (Xb Y) ?_
 refine Qat ?_
 refine Qs ?_
 refine Qax ?_
 refine Zb 8 Y Y Y (Zd (xs:=[.tmp 7]) Y Y (HT) by3 ?_)
 refine QaI ?_
 refine Qy ?_
 refine Qb ?_
 refine Qy ?_
 refine Qy ?_
 refine Qb ?_
 refine Qy ?_
 refine Qu ?_
 exact Zg Y Y (Yv _) (Yr _) ⟨Y,Y⟩
theorem eqS_ne {nm:Nat→ByteArray} {n:Nat} (h:0<n):eqS nm n≠kE:=by
 obtain ⟨n,rfl⟩:∃ k,n=k+1:=⟨n - 1,by omega⟩
 intro q
 have:=congrArg ByteArray.size q
 rw [eqS,ByteArray.size_append] at this
 unfold twoT at this
 simp only [ByteArray.size_append] at this
 have h2:kEqN.size=2:=rfl
 have h3:kE.size=0:=rfl
 omega
theorem eq_c {nm:Nat→ByteArray} (hm:NmT nm) (d:Da) (i:Nat) (c:Cn) (hc:d.cs[i]?=some c) (hn:c.ts.length≤8) (hs:c.s.size≤40):PCall Try.prog 34 [.agg d.cells,.val (.int .i64 i)] (.val (.string (eqT nm c.s c.ts.length d.cs.length))):=by
 have HA:=args_c hm c kY by15 hn
 have HW:=fun k (h:k<8)=>two_c hm kEqN by15 k h
 have hES:=eqS_size hm.sz
 have hAS:=args_size hm.sz (of:=kY) by15 _ hn
 have hTS:=fun k (h:k<8)=>two_size hm.sz kEqN (i:=k) h
 have hk2:kEqN.size=2:=rfl
 obtain ⟨ds,dps,dcs,ddv,dp⟩:=d
 obtain ⟨cs,cts,cp⟩:=c
 replace hn:cts.length≤8:=hn
 replace hs:cs.size≤40:=hs
 replace hc:dcs[i]?=some (Cn.mk cs cts cp):=hc
 replace HA:PCall Try.prog 33 [.agg (Cn.mk cs cts cp).cells,.val (.string kY)] (.val (.string (argsT nm kY cts.length))):=HA
 replace hAS:(argsT nm kY cts.length).size≤3 * cts.length:=hAS
 have hl:=Ty.cellss_len cts
 have hlc:=Cn.cellss_len dcs
 have hcc:=Cn.cellss_get hc
 obtain ⟨r,hr⟩:∃ r,eqT nm cs cts.length dcs.length=r:=⟨_,rfl⟩
 show PCall Try.prog _ _ (.val (.string (eqT nm cs cts.length dcs.length)))
 rw [hr]
 unfold eqT at hr
 simp only [Da.cells] at *
 have z1:(⟨#[99,97,115,101,32,121,32,111,102,32]⟩:ByteArray).size=10:=rfl
 have z2:(⟨#[32,45,62,32]⟩:ByteArray).size=4:=rfl
 have z3:(⟨#[32,124,32,95,32,45,62,32,70,97,108,115,101]⟩:ByteArray).size=13:=rfl
 have z4:(⟨#[32,101,110,100]⟩:ByteArray).size=4:=rfl
 have z5:(⟨#[84,114,117,101]⟩:ByteArray).size=4:=rfl
 have z6:(⟨#[32,38,38,32]⟩:ByteArray).size=4:=rfl
 refine Zc Try.func34 Y (by kernel_rfl) Y (Xb Y) ?_
 refine Qb9 ?_
 refine Qd ?_
 refine Qn ?_
 refine Qaa ?_
 refine Qdm ?_
 refine Qcg ?_
 refine Qch ?_;intro b5
 refine Qci ?_
 refine Qa ?_
 refine QC ?_
 refine QE ?_
 refine QM ?_
 apply Zw (rg [(0,2),(3,1),(6,22)]) (σ:=Nat) (fun zz=>match zz with|k=>[(7,.val (.int .i64 k)),(6,.val (.string (eqS nm k)))]) (fun zz=>match zz with|k=>k≤cts.length) (fun zz=>match zz with|k=>cts.length - k) (0)
 ·repeat' (first|exact Xe|apply Xc rfl|apply Xd rfl)
 ·exact Nat.zero_le _
 ·exact Yy Y (Yv _) (Yy Y (Yv _) (SLe.nil _))
 rintro k hI
 try dsimp only [List.cons_append,List.nil_append] at hI ⊢
 have hk:=hI
 have hz1:=hES k by16
 refine QU ?_
 refine Qa8 ?_
 refine QY ?_;intro n16
 refine Qm ?_;intro c17 h17
 refine Qa ?_
 obtain ⟨rfl,g17⟩|⟨rfl,g17⟩:=Za h17
 ·refine QbS ?_
  obtain rfl:k=cts.length:=by omega
  refine Qg ?_
  refine Qay ?_;intro c29 h29
  refine Qa ?_
  obtain ⟨rfl,g29⟩|⟨rfl,g29⟩:=Za h29
  ·refine Qt ?_
   first
   |(have h0:cts.length=0:=Nat.eq_zero_of_not_pos (fun q=>eqS_ne q g29);rw [if_pos h0] at hr)
   |(have h0:¬ cts.length=0:=fun q=>g29 (by rw [q];rfl);rw [if_neg h0] at hr)
   have hz5:kTrue.size=4:=rfl
   have hAS2:=hAS
   generalize argsT nm kY cts.length=ar at *
   refine c_drawn tmix Y ?_
   refine QbJ ?_
   refine Qcj ?_
   refine QaA ?_
   refine Qbs ?_
   refine Zs 34 Y Y (Zd (xs:=[.tmp 33,.const (.string ⟨#[121]⟩)]) Y Y (HA) by3 ⟨Y,Y⟩) ?_
   refine Qbl ?_
   refine Qap ?_
   refine QaA ?_
   refine Qbt ?_
   show AGo _ _ _ _ _ _ _
   refine QaP ?_
   refine Qaw ?_
   refine Qbq ?_;intro n41
   refine Q8 ?_;intro c42 h42
   refine Qa ?_
   obtain ⟨rfl,g42⟩|⟨rfl,g42⟩:=Za h42
   ·refine Q3 ?_
    refine Qy ?_
    refine Qu ?_
    first
    |(rw [if_pos by16] at hr;exact Zg rfl rfl (Le.str hr) (Yr _) ⟨rfl,rfl⟩)
    |(rw [if_neg by16] at hr;exact Zg rfl rfl (Le.str hr) (Yr _) ⟨rfl,rfl⟩)
   refine QaM ?_
   refine Qy ?_
   refine QaI ?_
   refine Qy ?_
   refine Qu ?_
   first
   |(rw [if_pos by16] at hr;exact Zg rfl rfl (Le.str hr) (Yr _) ⟨rfl,rfl⟩)
   |(rw [if_neg by16] at hr;exact Zg rfl rfl (Le.str hr) (Yr _) ⟨rfl,rfl⟩)
  refine Qk ?_
  refine Qj ?_
  refine Qau ?_
  first
  |(have h0:cts.length=0:=Nat.eq_zero_of_not_pos (fun q=>eqS_ne q g29);rw [if_pos h0] at hr)
  |(have h0:¬ cts.length=0:=fun q=>g29 (by rw [q];rfl);rw [if_neg h0] at hr)
  have hz5:kTrue.size=4:=rfl
  have hAS2:=hAS
  generalize argsT nm kY cts.length=ar at *
  refine c_drawn tmix Y ?_
  refine QbJ ?_
  refine Qcj ?_
  refine QaA ?_
  refine Qbs ?_
  refine Zs 34 Y Y (Zd (xs:=[.tmp 33,.const (.string ⟨#[121]⟩)]) Y Y (HA) by3 ⟨Y,Y⟩) ?_
  refine Qbl ?_
  refine Qap ?_
  refine QaA ?_
  refine Qbt ?_
  show AGo _ _ _ _ _ _ _
  refine QaP ?_
  refine Qaw ?_
  refine Qbq ?_;intro n41
  refine Q8 ?_;intro c42 h42
  refine Qa ?_
  obtain ⟨rfl,g42⟩|⟨rfl,g42⟩:=Za h42
  ·refine Q3 ?_
   refine Qy ?_
   refine Qu ?_
   first
   |(rw [if_pos by16] at hr;exact Zg rfl rfl (Le.str hr) (Yr _) ⟨rfl,rfl⟩)
   |(rw [if_neg by16] at hr;exact Zg rfl rfl (Le.str hr) (Yr _) ⟨rfl,rfl⟩)
  refine QaM ?_
  refine Qy ?_
  refine QaI ?_
  refine Qy ?_
  refine Qu ?_
  first
  |(rw [if_pos by16] at hr;exact Zg rfl rfl (Le.str hr) (Yr _) ⟨rfl,rfl⟩)
  |(rw [if_neg by16] at hr;exact Zg rfl rfl (Le.str hr) (Yr _) ⟨rfl,rfl⟩)
 refine Qaf ?_
 refine QK ?_
 have HWk:=HW k by16
 have hz2:=hTS k by16
 have hst:eqS nm (k+1)=(if 0<k then eqS nm k++⟨#[32,38,38,32]⟩ else eqS nm k)++twoT nm kEqN k:=by rw [eqS]
 generalize twoT nm kEqN k=tw at *
 refine Qg ?_
 refine Q8 ?_;intro c21 h21
 refine Qa ?_
 obtain ⟨rfl,g21⟩|⟨rfl,g21⟩:=Za h21
 ·refine QF ?_
  refine QJ ?_
  refine Zb 26 Y Y Y (Zd (xs:=[.const (.string ⟨#[101,113]⟩),.tmp 25]) Y Y (HWk) by3 ?_)
  refine Qy ?_
  refine Qam ?_
  first
  |(rw [if_pos by16] at hst;exact ⟨k+1,by show k+1≤cts.length;omega,by show cts.length - (k+1)<cts.length - k;omega,Yy rfl (Yv _) (Yy rfl (Le.str hst.symm) by6),by5⟩)
  |(rw [if_neg by16] at hst;exact ⟨k+1,by show k+1≤cts.length;omega,by show cts.length - (k+1)<cts.length - k;omega,Yy rfl (Yv _) (Yy rfl (Le.str hst.symm) by6),by5⟩)
 refine QaM ?_
 refine Qy ?_
 refine Qd ?_
 refine QJ ?_
 refine Zb 26 Y Y Y (Zd (xs:=[.const (.string ⟨#[101,113]⟩),.tmp 25]) Y Y (HWk) by3 ?_)
 refine Qy ?_
 refine Qam ?_
 first
 |(rw [if_pos by16] at hst;exact ⟨k+1,by show k+1≤cts.length;omega,by show cts.length - (k+1)<cts.length - k;omega,Yy rfl (Yv _) (Yy rfl (Le.str hst.symm) by6),by5⟩)
 |(rw [if_neg by16] at hst;exact ⟨k+1,by show k+1≤cts.length;omega,by show cts.length - (k+1)<cts.length - k;omega,Yy rfl (Yv _) (Yy rfl (Le.str hst.symm) by6),by5⟩)
theorem order_c {nm:Nat→ByteArray} (hm:NmT nm) (c:Cn):∀ r k,c.ts.length=k+1+r→c.ts.length≤8→PCall Try.prog 52 [.agg c.cells,.val (.int .i64 k)] (.val (.string (ordT nm r k)))
 | 0,k,h,hb=>by
  have HW:=two_c hm kCmp by15 k by16
  rw [ordT]
  generalize twoT nm kCmp k=tw at *
  obtain ⟨cs,cts,cp⟩:=c
  replace h:cts.length=k+1:=h
  have hl:=Ty.cellss_len cts
  refine QdN ?_
  refine Qv ?_
  refine Qcf ?_
  refine Qau ?_
  refine Qaw ?_
  refine QY ?_;intro n7
  refine Qi ?_;intro c8 h8
  refine Qa ?_
  obtain ⟨rfl,g8⟩|⟨rfl,g8⟩:=Za h8
  ·refine QF ?_
   refine Q6 ?_
   refine QY ?_;intro n12
   refine QT ?_
   refine Qi ?_;intro c14 h14
   refine Qa ?_
   obtain ⟨rfl,g14⟩|⟨rfl,g14⟩:=Za h14
   ·omega
   refine QaH ?_
   refine Zb 16 Y Y Y (Zd (xs:=[.const (.string ⟨#[99,111,109,112,97,114,101]⟩),.tmp 15]) Y Y (HW) by3 ?_)
   refine Qu ?_
   exact Zg Y Y (Yv _) (Yr _) ⟨Y,Y⟩
  omega
 | r+1,k,h,hb=>by
  have IH:=order_c hm c r (k+1) by16 hb
  have HW:=two_c hm kCmp by15 k by16
  have hz1:=two_size hm.sz kCmp (i:=k) by16
  have hz2:=ord_size hm.sz r (k+1) by16
  have hz3:kCmp.size=7:=rfl
  rw [ordT]
  generalize twoT nm kCmp k=tw at *
  generalize ordT nm r (k+1)=ow at *
  obtain ⟨cs,cts,cp⟩:=c
  replace h:cts.length=k+1+(r+1):=h
  replace hb:cts.length≤8:=hb
  have hl:=Ty.cellss_len cts
  have z1:(⟨#[99,97,115,101,32]⟩:ByteArray).size=5:=rfl
  have z2:(⟨#[32,111,102,32,69,81,32,45,62,32]⟩:ByteArray).size=10:=rfl
  have z3:(⟨#[32,124,32,114,32,45,62,32,114,32,101,110,100]⟩:ByteArray).size=13:=rfl
  refine QdN ?_
  refine Qv ?_
  refine Qcf ?_
  refine Qau ?_
  refine Qaw ?_
  refine QY ?_;intro n7
  refine Qi ?_;intro c8 h8
  refine Qa ?_
  obtain ⟨rfl,g8⟩|⟨rfl,g8⟩:=Za h8
  ·refine QF ?_
   refine Q6 ?_
   refine QY ?_;intro n12
   refine QT ?_
   refine Qi ?_;intro c14 h14
   refine Qa ?_
   obtain ⟨rfl,g14⟩|⟨rfl,g14⟩:=Za h14
   ·refine Qt ?_
    refine QbR ?_
    refine Zs 18 Y Y (Zd (xs:=[.const (.string ⟨#[99,111,109,112,97,114,101]⟩),.tmp 17]) Y Y (HW) by3 ⟨Y,Y⟩) ?_
    refine Qbl ?_
    refine Qew ?_
    refine Qap ?_
    refine Zs 23 Y Y (op_add Y Y Y (IntWalk.i64_in _ by16) ⟨Y,Y⟩) ?_
    refine Zs 24 Y Y (Zd (xs:=[.tmp 21,.tmp 23]) Y Y (IH) by3 ⟨Y,Y⟩) ?_
    refine Qbl ?_
    refine Qbt ?_
    show AGo _ _ _ _ _ _ _
    refine QV ?_
    exact Zg Y Y (Yv _) (Yr _) ⟨Y,Y⟩
   omega
  omega
theorem order0_c {nm:Nat→ByteArray} (hm:NmT nm) (c:Cn) (hb:c.ts.length≤8):PCall Try.prog 52 [.agg c.cells,.val (.int .i64 0)] (.val (.string (orderT nm c.ts.length))):=by
 unfold orderT
 by_cases h:c.ts.length=0
 ·rw [if_pos h]
  obtain ⟨cs,cts,cp⟩:=c
  replace h:cts.length=0:=h
  have hl:=Ty.cellss_len cts
  refine QdN ?_
  refine Qv ?_
  refine Qcf ?_
  refine Qau ?_
  refine Qaw ?_
  refine QY ?_;intro n7
  refine Qi ?_;intro c8 h8
  refine Qa ?_
  obtain ⟨rfl,g8⟩|⟨rfl,g8⟩:=Za h8
  ·omega
  refine QD ?_
  exact Zg Y Y (Yv _) (Yr _) ⟨Y,Y⟩
 rw [if_neg h]
 exact order_c hm c _ 0 by16 hb
theorem cmpF_1 {nm:Nat→ByteArray} {i k:Nat} {c:Cn} (s:ByteArray) (h:k<i):s++cmpF nm i k c=s++c.s++argsT nm kE c.ts.length++⟨#[32,45,62,32,71,84]⟩:=by
 unfold cmpF
 rw [if_pos h]
 simp only [ByteArray.append_assoc]
theorem cmpF_2 {nm:Nat→ByteArray} {i k:Nat} {c:Cn} (s:ByteArray) (h:k=i):s++cmpF nm i k c=s++c.s++argsT nm kY c.ts.length++⟨#[32,45,62,32]⟩++orderT nm c.ts.length:=by
 unfold cmpF
 rw [if_neg by16,if_pos h]
 simp only [ByteArray.append_assoc]
theorem cmpF_3 {nm:Nat→ByteArray} {i k:Nat} {c:Cn} (s:ByteArray) (h:i<k):s++cmpF nm i k c=s++c.s++argsT nm kE c.ts.length++⟨#[32,45,62,32,76,84]⟩:=by
 unfold cmpF
 rw [if_neg by16,if_neg by16]
 simp only [ByteArray.append_assoc]
def CnS (cs:List Cn):Prop:=∀ c∈cs,c.s.size≤40∧c.ts.length≤8
theorem compare_c {nm:Nat→ByteArray} (hm:NmT nm) (d:Da) (i:Nat) (hcn:CnS d.cs) (hl6:d.cs.length≤6):PCall Try.prog 35 [.agg d.cells,.val (.int .i64 i)] (.val (.string (cmpT nm i d.cs))):=by
 have HA:=fun (c:Cn) of (ho:of.size≤1) (h:c.ts.length≤8)=>args_c hm c of ho h
 have HO:=fun (c:Cn) (h:c.ts.length≤8)=>order0_c hm c h
 have hAS:=fun (of:ByteArray) (ho:of.size≤1) n (h:n≤8)=>args_size hm.sz ho n h
 have hOS:=fun {n} (h:n≤8)=>order_size hm.sz (n:=n) h
 obtain ⟨ds,dps,dcs,ddv,dp⟩:=d
 replace hcn:CnS dcs:=hcn
 replace hl6:dcs.length≤6:=hl6
 have hlc:=Cn.cellss_len dcs
 show PCall Try.prog _ _ (.val (.string (cmpT nm i dcs)))
 unfold cmpT
 obtain ⟨r,hr⟩:∃ r,altT (cmpF nm i) 0 ⟨#[99,97,115,101,32,121,32,111,102,32]⟩ dcs=r:=⟨_,rfl⟩
 rw [hr]
 simp only [Da.cells]
 have z1:(⟨#[99,97,115,101,32,121,32,111,102,32]⟩:ByteArray).size=10:=rfl
 have z2:(⟨#[32,45,62,32]⟩:ByteArray).size=4:=rfl
 have z3:(⟨#[32,124,32]⟩:ByteArray).size=3:=rfl
 have z4:(⟨#[32,101,110,100]⟩:ByteArray).size=4:=rfl
 have z5:(⟨#[32,45,62,32,71,84]⟩:ByteArray).size=6:=rfl
 have z6:(⟨#[32,45,62,32,76,84]⟩:ByteArray).size=6:=rfl
 refine Zc Try.func35 Y (by kernel_rfl) Y (Xb Y) ?_
 refine Qb9 ?_
 refine Qd ?_
 refine QC ?_
 refine QE ?_
 refine QM ?_
 apply Zw (rg [(0,1),(3,1),(5,52)]) (σ:=Nat × ByteArray) (fun zz=>match zz with|(k,s)=>[(6,.val (.int .i64 k)),(5,.val (.string s))]) (fun zz=>match zz with|(k,s)=>k≤dcs.length∧s.size≤10+1000 * k∧altT (cmpF nm i) k s (dcs.drop k)=r) (fun zz=>match zz with|(k,s)=>dcs.length - k) ((0,⟨#[99,97,115,101,32,121,32,111,102,32]⟩))
 ·repeat' (first|exact Xe|apply Xc rfl|apply Xd rfl)
 ·exact ⟨Nat.zero_le _,Nat.le_refl _,hr⟩
 ·exact Yy Y (Yv _) (Yy Y (Yv _) (SLe.nil _))
 rintro ⟨k,s⟩ hI
 try dsimp only [List.cons_append,List.nil_append] at hI ⊢
 obtain ⟨hk,hss,hA⟩:=hI
 refine Q6 ?_
 refine Qbq ?_;intro n11
 refine Qm ?_;intro c12 h12
 refine Qa ?_
 obtain ⟨rfl,g12⟩|⟨rfl,g12⟩:=Za h12
 ·refine QN ?_
  rw [List.drop_of_length_le by16,altT] at hA
  subst hA
  refine Qg ?_
  refine Qy ?_
  refine Qu ?_
  exact Zg Y Y (Yv _) (Yr _) ⟨Y,Y⟩
 refine QI ?_
 obtain ⟨⟨qs,qts,qp⟩,hxq⟩:=Zn (l:=dcs) (i:=k) by9
 have hcq:=Cn.cellss_get hxq
 have hmq:=Xf hxq
 obtain ⟨hq1,hq2⟩:=hcn _ hmq
 replace hq1:qs.size≤40:=hq1
 replace hq2:qts.length≤8:=hq2
 rw [drop_at hxq,altT] at hA
 have HE:PCall Try.prog 33 _ (.val (.string (argsT nm kE qts.length))):=HA (Cn.mk qs qts qp) kE by15 hq2
 have HY:PCall Try.prog 33 _ (.val (.string (argsT nm kY qts.length))):=HA (Cn.mk qs qts qp) kY by15 hq2
 have HOq:PCall Try.prog 52 _ (.val (.string (orderT nm qts.length))):=HO (Cn.mk qs qts qp) hq2
 have y1:=hAS kE by15 _ hq2
 have y2:=hAS kY by15 _ hq2
 have y3:=hOS hq2
 have f1:=fun s (h:k<i)=>cmpF_1 (nm:=nm) (i:=i) (k:=k) (c:=Cn.mk qs qts qp) s h
 have f2:=fun s (h:k=i)=>cmpF_2 (nm:=nm) (i:=i) (k:=k) (c:=Cn.mk qs qts qp) s h
 have f3:=fun s (h:i<k)=>cmpF_3 (nm:=nm) (i:=i) (k:=k) (c:=Cn.mk qs qts qp) s h
 simp only [Cn.s,Cn.ts] at f1 f2 f3
 generalize argsT nm kE qts.length=aE at *
 generalize argsT nm kY qts.length=aY at *
 generalize orderT nm qts.length=oq at *
 refine Qj ?_
 refine Qaa ?_
 refine QcS ?_
 refine Qcg ?_
 refine Qch ?_;intro b7
 refine Qci ?_
 refine Q2 ?_
 refine Q8 ?_;intro c21 h21
 refine Qa ?_
 obtain ⟨rfl,g21⟩|⟨rfl,g21⟩:=Za h21
 ·refine QF ?_
  refine QO ?_
  refine Qm ?_;intro c26 h26
  refine Qa ?_
  obtain ⟨rfl,g26⟩|⟨rfl,g26⟩:=Za h26
  ·refine QP ?_
   refine QO ?_
   refine Qi ?_;intro c37 h37
   refine Qa ?_
   obtain ⟨rfl,g37⟩|⟨rfl,g37⟩:=Za h37
   ·refine QP ?_
    refine QbR ?_
    refine QbJ ?_
    refine Qcj ?_
    refine QaA ?_
    refine Qbs ?_
    refine Zs 54 Y Y (Zd (xs:=[.tmp 53,.const (.string ⟨#[]⟩)]) Y Y (HE) by3 ⟨Y,Y⟩) ?_
    refine Qbl ?_
    refine Qbt ?_
    show AGo _ _ _ _ _ _ _
    refine Qas ?_
    first
    |(exfalso;omega)
    | rw [if_pos by16] at hA
    | rw [if_neg by16] at hA
    first
    | done
    |(rw [f1 _ by16] at hA;exact ⟨(k+1,_),⟨by show k+1≤dcs.length;omega,by (first|omega|(simp only [ByteArray.size_append];omega)),hA⟩,by show dcs.length - (k+1)<dcs.length - k;omega,by6,by5⟩)
    |(rw [f2 _ by16] at hA;exact ⟨(k+1,_),⟨by show k+1≤dcs.length;omega,by (first|omega|(simp only [ByteArray.size_append];omega)),hA⟩,by show dcs.length - (k+1)<dcs.length - k;omega,by6,by5⟩)
    |(rw [f3 _ by16] at hA;exact ⟨(k+1,_),⟨by show k+1≤dcs.length;omega,by (first|omega|(simp only [ByteArray.size_append];omega)),hA⟩,by show dcs.length - (k+1)<dcs.length - k;omega,by6,by5⟩)
   refine Qk ?_
   refine QbR ?_
   refine QbJ ?_
   refine Qcj ?_
   refine QaA ?_
   refine Qbs ?_
   refine Zs 43 Y Y (Zd (xs:=[.tmp 42,.const (.string ⟨#[121]⟩)]) Y Y (HY) by3 ⟨Y,Y⟩) ?_
   refine Qbl ?_
   refine Qbs ?_
   refine Zs 47 Y Y (Zd (xs:=[.tmp 46,.const (.int .i64 0)]) Y Y (HOq) by3 ⟨Y,Y⟩) ?_
   refine QaA ?_
   refine Qbt ?_
   show AGo _ _ _ _ _ _ _
   refine Qas ?_
   first
   |(exfalso;omega)
   | rw [if_pos by16] at hA
   | rw [if_neg by16] at hA
   first
   | done
   |(rw [f1 _ by16] at hA;exact ⟨(k+1,_),⟨by show k+1≤dcs.length;omega,by (first|omega|(simp only [ByteArray.size_append];omega)),hA⟩,by show dcs.length - (k+1)<dcs.length - k;omega,by6,by5⟩)
   |(rw [f2 _ by16] at hA;exact ⟨(k+1,_),⟨by show k+1≤dcs.length;omega,by (first|omega|(simp only [ByteArray.size_append];omega)),hA⟩,by show dcs.length - (k+1)<dcs.length - k;omega,by6,by5⟩)
   |(rw [f3 _ by16] at hA;exact ⟨(k+1,_),⟨by show k+1≤dcs.length;omega,by (first|omega|(simp only [ByteArray.size_append];omega)),hA⟩,by show dcs.length - (k+1)<dcs.length - k;omega,by6,by5⟩)
  refine Qk ?_
  refine QbR ?_
  refine QbJ ?_
  refine Qcj ?_
  refine QaA ?_
  refine Qbs ?_
  refine Zs 32 Y Y (Zd (xs:=[.tmp 31,.const (.string ⟨#[]⟩)]) Y Y (HE) by3 ⟨Y,Y⟩) ?_
  refine Qbl ?_
  refine Qbt ?_
  show AGo _ _ _ _ _ _ _
  refine Qas ?_
  first
  |(exfalso;omega)
  | rw [if_pos by16] at hA
  | rw [if_neg by16] at hA
  first
  | done
  |(rw [f1 _ by16] at hA;exact ⟨(k+1,_),⟨by show k+1≤dcs.length;omega,by (first|omega|(simp only [ByteArray.size_append];omega)),hA⟩,by show dcs.length - (k+1)<dcs.length - k;omega,by6,by5⟩)
  |(rw [f2 _ by16] at hA;exact ⟨(k+1,_),⟨by show k+1≤dcs.length;omega,by (first|omega|(simp only [ByteArray.size_append];omega)),hA⟩,by show dcs.length - (k+1)<dcs.length - k;omega,by6,by5⟩)
  |(rw [f3 _ by16] at hA;exact ⟨(k+1,_),⟨by show k+1≤dcs.length;omega,by (first|omega|(simp only [ByteArray.size_append];omega)),hA⟩,by show dcs.length - (k+1)<dcs.length - k;omega,by6,by5⟩)
 refine QaM ?_
 refine Qy ?_
 refine Qd ?_
 refine QO ?_
 refine Qm ?_;intro c26 h26
 refine Qa ?_
 obtain ⟨rfl,g26⟩|⟨rfl,g26⟩:=Za h26
 ·refine QP ?_
  refine QO ?_
  refine Qi ?_;intro c37 h37
  refine Qa ?_
  obtain ⟨rfl,g37⟩|⟨rfl,g37⟩:=Za h37
  ·refine QP ?_
   refine QbR ?_
   refine QbJ ?_
   refine Qcj ?_
   refine QaA ?_
   refine Qbs ?_
   refine Zs 54 Y Y (Zd (xs:=[.tmp 53,.const (.string ⟨#[]⟩)]) Y Y (HE) by3 ⟨Y,Y⟩) ?_
   refine Qbl ?_
   refine Qbt ?_
   show AGo _ _ _ _ _ _ _
   refine Qas ?_
   first
   |(exfalso;omega)
   | rw [if_pos by16] at hA
   | rw [if_neg by16] at hA
   first
   | done
   |(rw [f1 _ by16] at hA;exact ⟨(k+1,_),⟨by show k+1≤dcs.length;omega,by (first|omega|(simp only [ByteArray.size_append];omega)),hA⟩,by show dcs.length - (k+1)<dcs.length - k;omega,by6,by5⟩)
   |(rw [f2 _ by16] at hA;exact ⟨(k+1,_),⟨by show k+1≤dcs.length;omega,by (first|omega|(simp only [ByteArray.size_append];omega)),hA⟩,by show dcs.length - (k+1)<dcs.length - k;omega,by6,by5⟩)
   |(rw [f3 _ by16] at hA;exact ⟨(k+1,_),⟨by show k+1≤dcs.length;omega,by (first|omega|(simp only [ByteArray.size_append];omega)),hA⟩,by show dcs.length - (k+1)<dcs.length - k;omega,by6,by5⟩)
  refine Qk ?_
  refine QbR ?_
  refine QbJ ?_
  refine Qcj ?_
  refine QaA ?_
  refine Qbs ?_
  refine Zs 43 Y Y (Zd (xs:=[.tmp 42,.const (.string ⟨#[121]⟩)]) Y Y (HY) by3 ⟨Y,Y⟩) ?_
  refine Qbl ?_
  refine Qbs ?_
  refine Zs 47 Y Y (Zd (xs:=[.tmp 46,.const (.int .i64 0)]) Y Y (HOq) by3 ⟨Y,Y⟩) ?_
  refine QaA ?_
  refine Qbt ?_
  show AGo _ _ _ _ _ _ _
  refine Qas ?_
  first
  |(exfalso;omega)
  | rw [if_pos by16] at hA
  | rw [if_neg by16] at hA
  first
  | done
  |(rw [f1 _ by16] at hA;exact ⟨(k+1,_),⟨by show k+1≤dcs.length;omega,by (first|omega|(simp only [ByteArray.size_append];omega)),hA⟩,by show dcs.length - (k+1)<dcs.length - k;omega,by6,by5⟩)
  |(rw [f2 _ by16] at hA;exact ⟨(k+1,_),⟨by show k+1≤dcs.length;omega,by (first|omega|(simp only [ByteArray.size_append];omega)),hA⟩,by show dcs.length - (k+1)<dcs.length - k;omega,by6,by5⟩)
  |(rw [f3 _ by16] at hA;exact ⟨(k+1,_),⟨by show k+1≤dcs.length;omega,by (first|omega|(simp only [ByteArray.size_append];omega)),hA⟩,by show dcs.length - (k+1)<dcs.length - k;omega,by6,by5⟩)
 refine Qk ?_
 refine QbR ?_
 refine QbJ ?_
 refine Qcj ?_
 refine QaA ?_
 refine Qbs ?_
 refine Zs 32 Y Y (Zd (xs:=[.tmp 31,.const (.string ⟨#[]⟩)]) Y Y (HE) by3 ⟨Y,Y⟩) ?_
 refine Qbl ?_
 refine Qbt ?_
 show AGo _ _ _ _ _ _ _
 refine Qas ?_
 first
 |(exfalso;omega)
 | rw [if_pos by16] at hA
 | rw [if_neg by16] at hA
 first
 | done
 |(rw [f1 _ by16] at hA;exact ⟨(k+1,_),⟨by show k+1≤dcs.length;omega,by (first|omega|(simp only [ByteArray.size_append];omega)),hA⟩,by show dcs.length - (k+1)<dcs.length - k;omega,by6,by5⟩)
 |(rw [f2 _ by16] at hA;exact ⟨(k+1,_),⟨by show k+1≤dcs.length;omega,by (first|omega|(simp only [ByteArray.size_append];omega)),hA⟩,by show dcs.length - (k+1)<dcs.length - k;omega,by6,by5⟩)
 |(rw [f3 _ by16] at hA;exact ⟨(k+1,_),⟨by show k+1≤dcs.length;omega,by (first|omega|(simp only [ByteArray.size_append];omega)),hA⟩,by show dcs.length - (k+1)<dcs.length - k;omega,by6,by5⟩)
theorem show_c {nm:Nat→ByteArray} (hm:NmT nm) (d:Da) (i:Nat) (c:Cn) (hc:d.cs[i]?=some c) (hn:c.ts.length≤8) (hs:c.s.size≤40):PCall Try.prog 36 [.agg d.cells,.val (.int .i64 i)] (.val (.string (showT nm c))):=by
 have HT:=hm.tx
 have hsz:=hm.sz
 have hSS:=shS_size hm.sz hs
 obtain ⟨ds,dps,dcs,ddv,dp⟩:=d
 obtain ⟨cs,cts,cp⟩:=c
 replace hn:cts.length≤8:=hn
 replace hs:cs.size≤40:=hs
 replace hc:dcs[i]?=some (Cn.mk cs cts cp):=hc
 replace hSS:∀ n,n≤8→(shS nm cs n).size≤44+16 * n:=hSS
 have hl:=Ty.cellss_len cts
 have hlc:=Cn.cellss_len dcs
 have hcc:=Cn.cellss_get hc
 show PCall Try.prog _ _ (.val (.string (if cts.length=0 then ⟨#[34]⟩++cs++⟨#[34]⟩ else shS nm cs cts.length++⟨#[32,94,32,34,41,34]⟩)))
 simp only [Da.cells]
 have z1:(⟨#[34]⟩:ByteArray).size=1:=rfl
 have z2:(⟨#[34,40]⟩:ByteArray).size=2:=rfl
 have z3:(⟨#[32,34]⟩:ByteArray).size=2:=rfl
 have z4:(⟨#[32,94,32,34,32,34]⟩:ByteArray).size=6:=rfl
 have z5:(⟨#[32,94,32,115,104,111,119,32,120]⟩:ByteArray).size=9:=rfl
 have z6:(⟨#[32,94,32,34,41,34]⟩:ByteArray).size=6:=rfl
 refine Zc Try.func36 Y (by kernel_rfl) Y (Xb Y) ?_
 refine Qb9 ?_
 refine Qd ?_
 refine Qn ?_
 refine Qaa ?_
 refine Qdm ?_
 refine Qcg ?_
 refine Qch ?_;intro b5
 refine Qci ?_
 refine QbC ?_
 refine QY ?_;intro n15
 refine Qi ?_;intro c16 h16
 refine Qa ?_
 obtain ⟨rfl,g16⟩|⟨rfl,g16⟩:=Za h16
 ·refine Qt ?_
  rw [if_neg by16]
  refine Qbw ?_
  refine Qca ?_
  refine Qy ?_
  refine Qy ?_
  refine Qau ?_
  refine QM ?_
  apply Zw (rg [(0,4),(6,36)]) (σ:=Nat) (fun zz=>match zz with|k=>[(7,.val (.int .i64 k)),(6,.val (.string (shS nm cs k)))]) (fun zz=>match zz with|k=>k≤cts.length) (fun zz=>match zz with|k=>cts.length - k) (0)
  ·repeat' (first|exact Xe|apply Xc rfl|apply Xd rfl)
  ·exact Nat.zero_le _
  ·exact Yy Y (Yv _) (Yy Y (Yv _) (SLe.nil _))
  rintro k hI
  try dsimp only [List.cons_append,List.nil_append] at hI ⊢
  have hk:=hI
  have hz1:=hSS k by16
  refine QU ?_
  refine Qa8 ?_
  refine QY ?_;intro n28
  refine Qm ?_;intro c29 h29
  refine Qa ?_
  obtain ⟨rfl,g29⟩|⟨rfl,g29⟩:=Za h29
  ·refine QN ?_
   obtain rfl:k=cts.length:=by omega
   refine Qg ?_
   refine Qy ?_
   refine Qu ?_
   exact Zg Y Y (Yv _) (Yr _) ⟨Y,Y⟩
  refine Qaf ?_
  refine QK ?_
  have HTk:=HT k
  have hz2:=hsz k by16
  have hst:shS nm cs (k+1)=(if 0<k then shS nm cs k++⟨#[32,94,32,34,32,34]⟩ else shS nm cs k)++⟨#[32,94,32,115,104,111,119,32,120]⟩++nm k:=by rw [shS]
  refine Qg ?_
  refine Q8 ?_;intro c33 h33
  refine Qa ?_
  obtain ⟨rfl,g33⟩|⟨rfl,g33⟩:=Za h33
  ·refine QF ?_
   refine Qg ?_
   refine Qy ?_
   refine Qb ?_
   refine Qax ?_
   refine Zb 40 Y Y Y (Zd (xs:=[.tmp 39]) Y Y (HTk) by3 ?_)
   refine Qy ?_
   refine Qam ?_
   first
   |(rw [if_pos by16] at hst;exact ⟨k+1,by show k+1≤cts.length;omega,by show cts.length - (k+1)<cts.length - k;omega,Yy rfl (Yv _) (Yy rfl (Le.str hst.symm) by6),by5⟩)
   |(rw [if_neg by16] at hst;exact ⟨k+1,by show k+1≤cts.length;omega,by show cts.length - (k+1)<cts.length - k;omega,Yy rfl (Yv _) (Yy rfl (Le.str hst.symm) by6),by5⟩)
  refine QaM ?_
  refine Qy ?_
  refine Qd ?_
  refine Qg ?_
  refine Qy ?_
  refine Qb ?_
  refine Qax ?_
  refine Zb 40 Y Y Y (Zd (xs:=[.tmp 39]) Y Y (HTk) by3 ?_)
  refine Qy ?_
  refine Qam ?_
  first
  |(rw [if_pos by16] at hst;exact ⟨k+1,by show k+1≤cts.length;omega,by show cts.length - (k+1)<cts.length - k;omega,Yy rfl (Yv _) (Yy rfl (Le.str hst.symm) by6),by5⟩)
  |(rw [if_neg by16] at hst;exact ⟨k+1,by show k+1≤cts.length;omega,by show cts.length - (k+1)<cts.length - k;omega,Yy rfl (Yv _) (Yy rfl (Le.str hst.symm) by6),by5⟩)
 refine Qk ?_
 refine Qag ?_
 refine Qy ?_
 refine Qy ?_
 refine Qu ?_
 rw [if_pos by16];exact Zg rfl rfl (Yv _) (Yr _) ⟨rfl,rfl⟩
theorem allF_app {nm:Nat→ByteArray} (one:Nat→Cn→ByteArray) (k:Nat) (c:Cn) (s:ByteArray):s++allF nm one k c=s++c.s++argsT nm kX c.ts.length++⟨#[32,45,62,32]⟩++one k c:=by
 unfold allF
 simp only [ByteArray.append_assoc]
def nameT (cl:ByteArray):ByteArray:=if cl=kcShow then kShw else if cl=kcOrd then kCmp else if cl=kcEq then kEqN else kE
def headT (cl:ByteArray):ByteArray:=if cl=kcShow then kHead1 else kHead2
def oneT (nm:Nat→ByteArray) (cs:List Cn) (cl:ByteArray) (k:Nat) (c:Cn):ByteArray:=if cl=kcEq then eqT nm c.s c.ts.length cs.length else if cl=kcOrd then cmpT nm k cs else if cl=kcShow then showT nm c else kE
def textT (nm:Nat→ByteArray) (cs:List Cn) (cl:ByteArray):ByteArray:=if nameT cl=kE then kHead2++⟨#[32,101,110,100]⟩ else allT nm (headT cl) (oneT nm cs cl) cs
theorem kc_ne:kcEq≠kcOrd∧kcEq≠kcShow∧kcOrd≠kcShow∧kShw≠kE∧kCmp≠kE∧kEqN≠kE:=by decide +kernel
theorem head_no {cl:ByteArray} (h:nameT cl=kE):headT cl=kHead2:=by
 unfold nameT at h
 unfold headT
 by_cases q:cl=kcShow
 ·rw [if_pos q] at h;exact absurd h kc_ne.2.2.2.1
 rw [if_neg q]
theorem name_eq:nameT kcEq=kEqN:=by decide +kernel
theorem name_ord:nameT kcOrd=kCmp:=by decide +kernel
theorem name_show:nameT kcShow=kShw:=by decide +kernel
theorem name_not {cl:ByteArray} (h1:cl≠kcEq) (h2:cl≠kcOrd) (h3:cl≠kcShow):nameT cl=kE:=by
 unfold nameT
 rw [if_neg h3,if_neg h2,if_neg h1]
theorem text18_c {nm:Nat→ByteArray} (hm:NmT nm) (d:Da) (cl:ByteArray) (hcn:CnS d.cs) (hl6:d.cs.length≤6):PCall Try.prog 15 [.agg d.cells,.val (.string cl)] (.tup [.val (.string (textT nm d.cs cl)),.val (.string (nameT cl))]):=by
 have HA:=fun (c:Cn) (h:c.ts.length≤8)=>args_c hm c kX by15 h
 have HE:=fun k c (hc:d.cs[k]?=some c) h1 h2=>eq_c hm d k c hc h1 h2
 have HC:=fun k=>compare_c hm d k hcn hl6
 have HS:=fun k c (hc:d.cs[k]?=some c) h1 h2=>show_c hm d k c hc h1 h2
 have hAS:=fun n (h:n≤8)=>args_size hm.sz (of:=kX) by15 n h
 have hES:=fun (c:ByteArray) (hc:c.size≤40) n (h:n≤8) m=>eqT_size hm.sz hc h m
 have hCS:=fun k=>cmp_size hm.sz k hl6 hcn
 have hSS:=fun (c:Cn) (hc:c.s.size≤40) (h:c.ts.length≤8)=>show_size hm.sz hc h
 obtain ⟨ds,dps,dcs,ddv,dp⟩:=d
 replace hcn:CnS dcs:=hcn
 replace hl6:dcs.length≤6:=hl6
 have hlc:=Cn.cellss_len dcs
 show PCall Try.prog _ _ (.tup [.val (.string (textT nm dcs cl)),.val (.string (nameT cl))])
 obtain ⟨w,hw⟩:∃ w,textT nm dcs cl=w:=⟨_,rfl⟩
 rw [hw]
 unfold textT allT at hw
 obtain ⟨r,hr⟩:∃ r,altT (allF nm (oneT nm dcs cl)) 0 (headT cl) dcs=r:=⟨_,rfl⟩
 rw [hr] at hw
 simp only [Da.cells,Da.cs] at HA HE HC HS hCS ⊢
 have z1:kHead2.size=18:=rfl
 have z0:kHead1.size=16:=rfl
 have z2:(⟨#[32,45,62,32]⟩:ByteArray).size=4:=rfl
 have z3:(⟨#[32,124,32]⟩:ByteArray).size=3:=rfl
 have z4:(⟨#[32,101,110,100]⟩:ByteArray).size=4:=rfl
 have hhs:(headT cl).size≤20:=by unfold headT;split <;> decide
 refine Zc Try.func15 Y (by kernel_rfl) Y (Xb Y) ?_
 refine Qb9 ?_
 refine QaW ?_
 refine QC ?_
 refine QC ?_
 refine QU ?_
 refine Qay ?_;intro c10 h10
 refine Qa ?_
 apply c_joinkm [0,3,7,9,10] (σ:=Unit) (fun zz=>match zz with|z=>[(7,.val (.string (if cl=kcEq then kEqN else kE)))]) (fun zz=>match zz with|z=>True)
 ·repeat' (first|exact Xe|apply Xc rfl|apply Xd rfl)
 ·skip
  obtain ⟨rfl,g10⟩|⟨rfl,g10⟩:=Za h10
  ·refine QbX ?_
   first
   | exact ⟨(),trivial,Yy rfl (Le.str (if_pos g10).symm) by6,by5⟩
   | exact ⟨(),trivial,Yy rfl (Le.str (if_neg g10).symm) by6,by5⟩
  refine Qk ?_
  refine Qj ?_
  refine Qaj ?_
  first
  | exact ⟨(),trivial,Yy rfl (Le.str (if_pos g10).symm) by6,by5⟩
  | exact ⟨(),trivial,Yy rfl (Le.str (if_neg g10).symm) by6,by5⟩
 rintro z hI
 try dsimp only [List.cons_append,List.nil_append] at hI ⊢
 refine Qe ?_
 refine QU ?_
 refine Qay ?_;intro c12 h12
 refine Qa ?_
 apply c_joinkm [0,3,7,9,10,11,12] (σ:=Unit) (fun zz=>match zz with|z=>[(7,.val (.string (if cl=kcOrd then kCmp else if cl=kcEq then kEqN else kE)))]) (fun zz=>match zz with|z=>True)
 ·repeat' (first|exact Xe|apply Xc rfl|apply Xd rfl)
 ·skip
  obtain ⟨rfl,g12⟩|⟨rfl,g12⟩:=Za h12
  ·refine QbX ?_
   first
   | exact ⟨(),trivial,Yy rfl (Le.str (if_pos g12).symm) by6,by5⟩
   | exact ⟨(),trivial,Yy rfl (Le.str (if_neg g12).symm) by6,by5⟩
  refine Qk ?_
  refine Qj ?_
  refine Qaj ?_
  first
  | exact ⟨(),trivial,Yy rfl (Le.str (if_pos g12).symm) by6,by5⟩
  | exact ⟨(),trivial,Yy rfl (Le.str (if_neg g12).symm) by6,by5⟩
 rintro z hI
 try dsimp only [List.cons_append,List.nil_append] at hI ⊢
 refine Qe ?_
 refine QU ?_
 refine Qay ?_;intro c14 h14
 refine Qa ?_
 apply c_joinkm [0,3,6,7,9,10,11,12,13,14] (σ:=Unit) (fun zz=>match zz with|z=>[(7,.val (.string (nameT cl))),(6,.val (.string (headT cl)))]) (fun zz=>match zz with|z=>True)
 ·repeat' (first|exact Xe|apply Xc rfl|apply Xd rfl)
 ·skip
  obtain ⟨rfl,g14⟩|⟨rfl,g14⟩:=Za h14
  ·refine QbX ?_
   first
   | exact ⟨(),trivial,Yy rfl (Le.str (if_pos g14).symm) (Yy rfl (Le.str (if_pos g14).symm) by6),by5⟩
   | exact ⟨(),trivial,Yy rfl (Le.str (if_neg g14).symm) (Yy rfl (Le.str (if_neg g14).symm) by6),by5⟩
  refine Qk ?_
  refine QC ?_
  refine Qj ?_
  refine Qaj ?_
  first
  | exact ⟨(),trivial,Yy rfl (Le.str (if_pos g14).symm) (Yy rfl (Le.str (if_pos g14).symm) by6),by5⟩
  | exact ⟨(),trivial,Yy rfl (Le.str (if_neg g14).symm) (Yy rfl (Le.str (if_neg g14).symm) by6),by5⟩
 rintro z hI
 try dsimp only [List.cons_append,List.nil_append] at hI ⊢
 refine QaP ?_
 refine QM ?_
 apply Zw (rg [(0,1),(3,1),(6,1),(8,60)]) (σ:=Nat × ByteArray) (fun zz=>match zz with|(k,s)=>[(8,.val (.int .i64 k)),(6,.val (.string s))]) (fun zz=>match zz with|(k,s)=>k≤dcs.length∧s.size≤20+4000 * k∧altT (allF nm (oneT nm dcs cl)) k s (dcs.drop k)=r∧(nameT cl=kE→s=kHead2)) (fun zz=>match zz with|(k,s)=>dcs.length - k) ((0,headT cl))
 ·repeat' (first|exact Xe|apply Xc rfl|apply Xd rfl)
 ·exact ⟨Nat.zero_le _,hhs,hr,head_no⟩
 ·exact Yy Y (Yv _) (Yy Y (Yv _) (SLe.nil _))
 rintro ⟨k,s⟩ hI
 try dsimp only [List.cons_append,List.nil_append] at hI ⊢
 obtain ⟨hk,hss,hA,hno⟩:=hI
 refine QK ?_
 refine Zt 23 (k<dcs.length∧nameT cl≠kE) ?_ _ _ Y ?_
 ·skip
  refine Qb ?_
  refine Ql ?_
  refine Qbq ?_;intro n18
  refine Qm ?_;intro c19 h19
  refine Qb ?_
  obtain ⟨rfl,g19⟩|⟨rfl,g19⟩:=Za h19
  ·skip
   refine Qae ?_
   refine Yz Y ?_ by7 by5
   first|(simp_all;done)|(simp_all;omega)|grind
  skip
  refine Qc ?_
  refine Qcp ?_;intro c22 h22
  refine Qf ?_
  refine Yz Y ?_ by7 by5
  first|(simp_all;done)|(simp_all;omega)|grind
 intro c23 h23
 refine Qe ?_
 obtain ⟨rfl,g23⟩|⟨rfl,g23⟩:=Za h23
 ·refine QN ?_
  have hs2:s++⟨#[32,101,110,100]⟩=w:=by
   by_cases q:nameT cl=kE
   ·rw [if_pos q] at hw;rw [hno q,hw]
   rw [if_neg q] at hw
   have hkl:¬ k<dcs.length:=fun e=>g23 ⟨e,q⟩
   rw [List.drop_of_length_le by16,altT] at hA
   rw [hA,hw]
  refine Qg ?_
  refine Qy ?_
  refine Qb ?_
  refine Qbv ?_
  exact out_tt Y Y Y (Le.tup (Yx (Le.str hs2) (Yx (Yv _) (Yw _)))) (Yr _) ⟨Y,Y⟩
 refine Qaf ?_
 refine QK ?_
 obtain ⟨⟨qs,qts,qp⟩,hxq⟩:=Zn (l:=dcs) (i:=k) by9
 have hcq:=Cn.cellss_get hxq
 have hmq:=Xf hxq
 obtain ⟨hq1,hq2⟩:=hcn _ hmq
 replace hq1:qs.size≤40:=hq1
 replace hq2:qts.length≤8:=hq2
 rw [drop_at hxq,altT] at hA
 have HX:PCall Try.prog 33 _ (.val (.string (argsT nm kX qts.length))):=HA (Cn.mk qs qts qp) hq2
 have HEk:=HE k _ hxq hq2 hq1
 have HCk:=HC k
 have HSk:=HS k _ hxq hq2 hq1
 have y1:=hAS _ hq2
 have y2:=hES qs hq1 _ hq2 dcs.length
 have y3:=hCS k
 have y4:=hSS (Cn.mk qs qts qp) hq1 hq2
 have f1:=fun s=>allF_app (nm:=nm) (oneT nm dcs cl) k (Cn.mk qs qts qp) s
 have o1:cl=kcEq→oneT nm dcs cl k (Cn.mk qs qts qp)=eqT nm qs qts.length dcs.length:=fun h=>if_pos h
 have o2:cl=kcOrd→oneT nm dcs cl k (Cn.mk qs qts qp)=cmpT nm k dcs:=fun h=>by
  unfold oneT
  rw [if_neg (fun q=>kc_ne.1 (q.symm.trans h)),if_pos h]
 have o3:cl=kcShow→oneT nm dcs cl k (Cn.mk qs qts qp)=showT nm (Cn.mk qs qts qp):=fun h=>by
  unfold oneT
  rw [if_neg (fun q=>kc_ne.2.1 (q.symm.trans h)),if_neg (fun q=>kc_ne.2.2.1 (q.symm.trans h)),if_pos h]
 simp only [Cn.s,Cn.ts] at f1 HEk
 generalize argsT nm kX qts.length=aX at *
 generalize eqT nm qs qts.length dcs.length=te at *
 generalize cmpT nm k dcs=tc at *
 generalize showT nm (Cn.mk qs qts qp)=ts at *
 generalize oneT nm dcs cl k (Cn.mk qs qts qp)=one at *
 generalize allF nm (oneT nm dcs cl) k (Cn.mk qs qts qp)=al1 at *
 refine Qg ?_
 refine Q8 ?_;intro c27 h27
 refine Qa ?_
 apply c_joinkm [0,3,6,9,10,11,12,13,14,28,29] (σ:=Unit) (fun zz=>match zz with|z=>[(6,.val (.string (if 0<k then s++⟨#[32,124,32]⟩ else s)))]) (fun zz=>match zz with|z=>True)
 ·repeat' (first|exact Xe|apply Xc rfl|apply Xd rfl)
 ·skip
  obtain ⟨rfl,g27⟩|⟨rfl,g27⟩:=Za h27
  ·refine QbX ?_
   first
   | exact ⟨(),trivial,Yy rfl (Le.str (if_pos by16).symm) by6,by5⟩
   | exact ⟨(),trivial,Yy rfl (Le.str (if_neg by16).symm) by6,by5⟩
  refine QaM ?_
  refine Qy ?_
  refine Qaj ?_
  first
  | exact ⟨(),trivial,Yy rfl (Le.str (if_pos by16).symm) by6,by5⟩
  | exact ⟨(),trivial,Yy rfl (Le.str (if_neg by16).symm) by6,by5⟩
 rintro z hI
 try dsimp only [List.cons_append,List.nil_append] at hI ⊢
 obtain ⟨P,hP⟩:∃ P,(if 0<k then s++⟨#[32,124,32]⟩ else s)=P:=⟨_,rfl⟩
 have hPs:P.size≤s.size+3:=by
  rw [← hP]
  split
  ·rw [ByteArray.size_append];omega
  omega
 rw [hP] at hA ⊢
 have f1:=f1 P
 refine QaP ?_
 refine QbR ?_
 refine QaX ?_
 refine Qex ?_
 refine QbI ?_
 refine Qcm ?_
 refine QaA ?_
 refine QaX ?_
 refine Qex ?_
 refine Qew ?_
 refine Zs 43 Y Y (Zd (xs:=[.tmp 42,.const (.string ⟨#[120]⟩)]) Y Y (HX) by3 ⟨Y,Y⟩) ?_
 refine Qbl ?_
 refine Qbt ?_
 show AGo _ _ _ _ _ _ _
 refine Qe ?_
 refine Qs ?_
 refine Qa ?_
 refine Qa3 ?_
 refine Qn ?_
 refine Qay ?_;intro c48 h48
 refine Qd ?_
 obtain ⟨rfl,g48⟩|⟨rfl,g48⟩:=Za h48
 ·refine QP ?_
  refine Qn ?_
  refine Qay ?_;intro c55 h55
  refine Qd ?_
  obtain ⟨rfl,g55⟩|⟨rfl,g55⟩:=Za h55
  ·refine QP ?_
   refine Qn ?_
   refine Qay ?_;intro c62 h62
   refine Qd ?_
   obtain ⟨rfl,g62⟩|⟨rfl,g62⟩:=Za h62
   ·refine QaD ?_
    refine go_blk ?_
    refine Qas ?_
    first
    |(rw [o1 g48] at f1;exact ⟨(k+1,P++qs++aX++⟨#[32,45,62,32]⟩++te),⟨by show k+1≤dcs.length;omega,by simp only [ByteArray.size_append];omega,by rw [f1] at hA;exact hA,fun q=>absurd q g23.2⟩,by show dcs.length - (k+1)<dcs.length - k;omega,by6,by5⟩)
    |(rw [o2 g55] at f1;exact ⟨(k+1,P++qs++aX++⟨#[32,45,62,32]⟩++tc),⟨by show k+1≤dcs.length;omega,by simp only [ByteArray.size_append];omega,by rw [f1] at hA;exact hA,fun q=>absurd q g23.2⟩,by show dcs.length - (k+1)<dcs.length - k;omega,by6,by5⟩)
    |(rw [o3 g62] at f1;exact ⟨(k+1,P++qs++aX++⟨#[32,45,62,32]⟩++ts),⟨by show k+1≤dcs.length;omega,by simp only [ByteArray.size_append];omega,by rw [f1] at hA;exact hA,fun q=>absurd q g23.2⟩,by show dcs.length - (k+1)<dcs.length - k;omega,by6,by5⟩)
    | exact absurd (name_not g48 g55 g62) g23.2
   refine QaM ?_
   refine Qbr ?_
   refine Qb ?_
   refine Zb 66 Y Y Y (Zd (xs:=[.tmp 64,.tmp 65]) Y Y (HSk) by3 ?_)
   refine Qy ?_
   refine QbM ?_
   refine go_blk ?_
   refine Qas ?_
   first
   |(rw [o1 g48] at f1;exact ⟨(k+1,P++qs++aX++⟨#[32,45,62,32]⟩++te),⟨by show k+1≤dcs.length;omega,by simp only [ByteArray.size_append];omega,by rw [f1] at hA;exact hA,fun q=>absurd q g23.2⟩,by show dcs.length - (k+1)<dcs.length - k;omega,by6,by5⟩)
   |(rw [o2 g55] at f1;exact ⟨(k+1,P++qs++aX++⟨#[32,45,62,32]⟩++tc),⟨by show k+1≤dcs.length;omega,by simp only [ByteArray.size_append];omega,by rw [f1] at hA;exact hA,fun q=>absurd q g23.2⟩,by show dcs.length - (k+1)<dcs.length - k;omega,by6,by5⟩)
   |(rw [o3 g62] at f1;exact ⟨(k+1,P++qs++aX++⟨#[32,45,62,32]⟩++ts),⟨by show k+1≤dcs.length;omega,by simp only [ByteArray.size_append];omega,by rw [f1] at hA;exact hA,fun q=>absurd q g23.2⟩,by show dcs.length - (k+1)<dcs.length - k;omega,by6,by5⟩)
   | exact absurd (name_not g48 g55 g62) g23.2
  refine QaM ?_
  refine Qbr ?_
  refine Qb ?_
  refine Zb 59 Y Y Y (Zd (xs:=[.tmp 57,.tmp 58]) Y Y (HCk) by3 ?_)
  refine Qy ?_
  refine QbM ?_
  refine go_blk ?_
  refine Qas ?_
  first
  |(rw [o1 g48] at f1;exact ⟨(k+1,P++qs++aX++⟨#[32,45,62,32]⟩++te),⟨by show k+1≤dcs.length;omega,by simp only [ByteArray.size_append];omega,by rw [f1] at hA;exact hA,fun q=>absurd q g23.2⟩,by show dcs.length - (k+1)<dcs.length - k;omega,by6,by5⟩)
  |(rw [o2 g55] at f1;exact ⟨(k+1,P++qs++aX++⟨#[32,45,62,32]⟩++tc),⟨by show k+1≤dcs.length;omega,by simp only [ByteArray.size_append];omega,by rw [f1] at hA;exact hA,fun q=>absurd q g23.2⟩,by show dcs.length - (k+1)<dcs.length - k;omega,by6,by5⟩)
  |(rw [o3 g62] at f1;exact ⟨(k+1,P++qs++aX++⟨#[32,45,62,32]⟩++ts),⟨by show k+1≤dcs.length;omega,by simp only [ByteArray.size_append];omega,by rw [f1] at hA;exact hA,fun q=>absurd q g23.2⟩,by show dcs.length - (k+1)<dcs.length - k;omega,by6,by5⟩)
  | exact absurd (name_not g48 g55 g62) g23.2
 refine QaM ?_
 refine Qbr ?_
 refine Qb ?_
 refine Zb 52 Y Y Y (Zd (xs:=[.tmp 50,.tmp 51]) Y Y (HEk) by3 ?_)
 refine Qy ?_
 refine QbM ?_
 refine go_blk ?_
 refine Qas ?_
 first
 |(rw [o1 g48] at f1;exact ⟨(k+1,P++qs++aX++⟨#[32,45,62,32]⟩++te),⟨by show k+1≤dcs.length;omega,by simp only [ByteArray.size_append];omega,by rw [f1] at hA;exact hA,fun q=>absurd q g23.2⟩,by show dcs.length - (k+1)<dcs.length - k;omega,by6,by5⟩)
 |(rw [o2 g55] at f1;exact ⟨(k+1,P++qs++aX++⟨#[32,45,62,32]⟩++tc),⟨by show k+1≤dcs.length;omega,by simp only [ByteArray.size_append];omega,by rw [f1] at hA;exact hA,fun q=>absurd q g23.2⟩,by show dcs.length - (k+1)<dcs.length - k;omega,by6,by5⟩)
 |(rw [o3 g62] at f1;exact ⟨(k+1,P++qs++aX++⟨#[32,45,62,32]⟩++ts),⟨by show k+1≤dcs.length;omega,by simp only [ByteArray.size_append];omega,by rw [f1] at hA;exact hA,fun q=>absurd q g23.2⟩,by show dcs.length - (k+1)<dcs.length - k;omega,by6,by5⟩)
 | exact absurd (name_not g48 g55 g62) g23.2
theorem text_law {nm:Nat→ByteArray} (hnm:NmG nm) (hsz:∀ i,i<8→(nm i).size=1) (a:Int) {cs:List Cn} (h:DtG cs) {cl:ByteArray} (hc:nameT cl≠kE):Parsed a (textT nm cs cl) (if cl=kcEq then eqX nm a cs else if cl=kcOrd then ordX nm a cs else showX nm a cs):=by
 unfold textT
 rw [if_neg hc]
 by_cases h1:cl=kcEq
 ·rw [if_pos h1]
  have e:allT nm (headT cl) (oneT nm cs cl) cs=eqI nm cs:=by
   have e1:headT cl=kHead2:=if_neg (fun q=>kc_ne.2.1 (h1.symm.trans q))
   have e2:oneT nm cs cl=fun _ c=>eqT nm c.s c.ts.length cs.length:=by
    funext k c;exact if_pos h1
   rw [e1,e2];rfl
  rw [e];exact eqI_law hnm hsz a h
 by_cases h2:cl=kcOrd
 ·rw [if_neg h1,if_pos h2]
  have e:allT nm (headT cl) (oneT nm cs cl) cs=ordI nm cs:=by
   have e1:headT cl=kHead2:=if_neg (fun q=>kc_ne.2.2.1 (h2.symm.trans q))
   have e2:oneT nm cs cl=fun i _=>cmpT nm i cs:=by
    funext k c;unfold oneT;rw [if_neg h1,if_pos h2]
   rw [e1,e2];rfl
  rw [e];exact ordI_law hnm hsz a h
 rw [if_neg h1,if_neg h2]
 have h3:cl=kcShow:=Classical.byContradiction fun q=>hc (name_not h1 h2 q)
 have e:allT nm (headT cl) (oneT nm cs cl) cs=showI nm cs:=by
  have e1:headT cl=kHead1:=if_pos h3
  have e2:oneT nm cs cl=fun _ c=>showT nm c:=by
   funext k c;unfold oneT;rw [if_neg h1,if_neg h2,if_pos h3]
  rw [e1,e2];rfl
 rw [e];exact showI_law hnm hsz a h
/- nodes that are not too wide -/
mutual
def Pa.wid:Pa→Prop
 | .mk _ _ _ ks _=>ks.length≤1000∧Pa.wids ks
def Pa.wids:List Pa→Prop
 | []=>True
 | x::l=>x.wid∧Pa.wids l
end
mutual
def Ex.wid:Ex→Prop
 | .mk _ _ _ _ ks al _ _=>ks.length≤1000∧al.length≤1000∧Ex.wids ks∧Al.wids al
def Ex.wids:List Ex→Prop
 | []=>True
 | x::l=>x.wid∧Ex.wids l
def Al.wid:Al→Prop
 | .mk q e=>q.wid∧e.wid
def Al.wids:List Al→Prop
 | []=>True
 | x::l=>x.wid∧Al.wids l
end
theorem Pa.wids_iff:∀ l:List Pa,Pa.wids l↔∀ x∈l,x.wid
 | []=>by rw [Pa.wids];exact ⟨fun _ x h=>by simp at h,fun _=>trivial⟩
 | x::l=>by
  rw [Pa.wids,Pa.wids_iff l]
  exact ⟨fun h y hy=>(List.mem_cons.1 hy).elim (fun e=>e ▸ h.1) (h.2 y),fun h=>⟨h x by17,fun y hy=>h y (by simp [hy])⟩⟩
theorem Ex.wids_iff:∀ l:List Ex,Ex.wids l↔∀ x∈l,x.wid
 | []=>by rw [Ex.wids];exact ⟨fun _ x h=>by simp at h,fun _=>trivial⟩
 | x::l=>by
  rw [Ex.wids,Ex.wids_iff l]
  exact ⟨fun h y hy=>(List.mem_cons.1 hy).elim (fun e=>e ▸ h.1) (h.2 y),fun h=>⟨h x by17,fun y hy=>h y (by simp [hy])⟩⟩
theorem Al.wids_iff:∀ l:List Al,Al.wids l↔∀ x∈l,x.wid
 | []=>by rw [Al.wids];exact ⟨fun _ x h=>by simp at h,fun _=>trivial⟩
 | x::l=>by
  rw [Al.wids,Al.wids_iff l]
  exact ⟨fun h y hy=>(List.mem_cons.1 hy).elim (fun e=>e ▸ h.1) (h.2 y),fun h=>⟨h x by17,fun y hy=>h y (by simp [hy])⟩⟩
theorem Pa.wid_pin (a:Int) (p:Pa):(p.pin a).wid→p.wid:=by
 obtain ⟨k,s,n,ks,pl⟩:=p
 intro h
 rw [Pa.pin,Pa.wid,Pa.pins_map,List.length_map] at h
 rw [Pa.wid,Pa.wids_iff]
 exact ⟨h.1,fun x hx=>Pa.wid_pin a x ((Pa.wids_iff _).1 h.2 _ (List.mem_map_of_mem hx))⟩
termination_by SizeOf.sizeOf p
decreasing_by exact Pa.lt_kid hx
theorem Ex.wid_pin (a:Int) (e:Ex):(e.pin a).wid→e.wid:=by
 obtain ⟨k,s,n,t,ks,al,bs,pl⟩:=e
 intro h
 rw [Ex.pin,Ex.wid,Ex.pins_map,Al.pins_map,List.length_map,List.length_map] at h
 rw [Ex.wid,Ex.wids_iff,Al.wids_iff]
 refine ⟨h.1,h.2.1,fun x hx=>Ex.wid_pin a x ((Ex.wids_iff _).1 h.2.2.1 _ (List.mem_map_of_mem hx)),fun x hx=>?_⟩
 have h2:=(Al.wids_iff _).1 h.2.2.2 _ (List.mem_map_of_mem hx)
 obtain ⟨q,y⟩:=x
 rw [Al.pin,Al.wid] at h2
 rw [Al.wid]
 have hlt:SizeOf.sizeOf y<SizeOf.sizeOf (Ex.mk k s n t ks al bs pl):=Nat.lt_trans (Al.lt_e (.mk q y)) (Ex.lt_alt hx)
 exact ⟨Pa.wid_pin a q h2.1,Ex.wid_pin a y h2.2⟩
termination_by SizeOf.sizeOf e
decreasing_by
 ·exact Ex.lt_kid hx
 exact hlt
theorem wid_node {k:Int} {s:ByteArray} {n a:Int} {ks:List Ex} {al:List Al} (h1:ks.length≤1000) (h2:al.length≤1000) (h3:∀ x∈ks,x.wid) (h4:∀ x∈al,x.wid):(Ex.mk k s n ty0 ks al [] a).wid:=by
 rw [Ex.wid,Ex.wids_iff,Al.wids_iff];exact ⟨h1,h2,h3,h4⟩
theorem Yi (k:Int) (s:ByteArray) (a:Int):(namE k s a).wid:=wid_node by17 by17 by17 by17
theorem wid_two {k:Int} {x y:Ex} {a:Int} (h1:x.wid) (h2:y.wid):(opE k [x,y] a).wid:=wid_node by17 by17 (by
 intro z hz
 simp only [List.mem_cons,List.not_mem_nil,or_false] at hz
 rcases hz with rfl|rfl
 ·exact h1
 exact h2) by17
theorem wid_twoX (a:Int) (f:ByteArray) (i:Nat):(twoX a f i).wid:=wid_two (wid_two (Yi _ _ _) (Yi _ _ _)) (Yi _ _ _)
theorem wid_hat {a:Int} {x y:Ex} (h1:x.wid) (h2:y.wid):(hatE a x y).wid:=wid_two (wid_two (Yi _ _ _) h1) h2
theorem wid_sufX (a:Int):∀ r i,(sufX a i r).wid
 | 0,_=>wid_twoX _ _ _
 | r+1,i=>wid_two (wid_twoX _ _ _) (wid_sufX a r (i+1))
theorem wid_patK (a:Int) (of:ByteArray) (i:Nat):(patK a of i).wid:=by
 unfold patK
 split <;>(rw [Pa.wid,Pa.wids];exact ⟨by simp,trivial⟩)
theorem patL_mem {a:Int} {of:ByteArray} {x:Pa}:∀ {n},x∈patL a of n→∃ i,x=patK a of i
 | 0,h=>by simp [patL] at h
 | n+1,h=>by
  rw [patL] at h
  rcases List.mem_append.1 h with h|h
  ·exact patL_mem h
  rw [List.mem_singleton] at h;exact ⟨n,h⟩
theorem wid_patX (a:Int) (c of:ByteArray) {n:Nat} (h:n≤1000):(patX a c of n).wid:=by
 unfold patX
 rw [Pa.wid,Pa.wids_iff,patL_len]
 refine ⟨h,fun x hx=>?_⟩
 obtain ⟨i,rfl⟩:=patL_mem hx
 exact wid_patK a of i
theorem wid_pat0 (k:Int) (s:ByteArray) (a:Int):(Pa.mk k s 0 [] a).wid:=by rw [Pa.wid,Pa.wids];exact ⟨by simp,trivial⟩
theorem wid_alt {q:Pa} {e:Ex} (h1:q.wid) (h2:e.wid):(Al.mk q e).wid:=by rw [Al.wid];exact ⟨h1,h2⟩
theorem wid_lexX (a:Int):∀ r k,(lexX a r k).wid
 | 0,k=>wid_twoX _ _ _
 | r+1,k=>wid_node by17 by17 (fun x hx=>by rw [List.mem_singleton] at hx;subst hx;exact wid_twoX _ _ _) (fun x hx=>by
  simp only [List.mem_cons,List.not_mem_nil,or_false] at hx
  rcases hx with rfl|rfl
  ·exact wid_alt (wid_pat0 _ _ _) (wid_lexX a r (k+1))
  exact wid_alt (wid_pat0 _ _ _) (Yi _ _ _))
theorem wid_orderX (a:Int) (n:Nat):(orderX a n).wid:=by
 unfold orderX
 split
 ·exact Yi _ _ _
 exact wid_lexX _ _ _
theorem wid_shW (a:Int) (c:ByteArray):∀ r j,(shW a c j r).wid
 | 0,_=>wid_hat (Yi _ _ _) (wid_hat (wid_two (Yi _ _ _) (Yi _ _ _)) (Yi _ _ _))
 | r+1,j=>wid_hat (Yi _ _ _) (wid_hat (wid_two (Yi _ _ _) (Yi _ _ _)) (wid_shW a c r (j+1)))
theorem wid_showXX (a:Int) (c:ByteArray) (n:Nat):(showXX a c n).wid:=by
 unfold showXX shV
 split
 ·exact Yi _ _ _
 split
 ·exact Yi _ _ _
 exact wid_shW _ _ _ _
theorem wid_eqXX (a:Int) (c:ByteArray) {n:Nat} (h:n≤1000) (m:Nat):(eqXX a c n m).wid:=by
 have he:(eqV a n 0).wid:=by
  unfold eqV
  split
  ·exact Yi _ _ _
  exact wid_sufX _ _ _
 unfold eqXX
 refine wid_node by17 (by split <;> simp) (fun x hx=>by rw [List.mem_singleton] at hx;subst hx;exact Yi _ _ _) (fun x hx=>?_)
 rcases List.mem_cons.1 hx with rfl|hx
 ·exact wid_alt (wid_patX a c kY h) he
 split at hx
 ·rw [List.mem_singleton] at hx;subst hx;exact wid_alt (wid_pat0 _ _ _) (Yi _ _ _)
 simp at hx
theorem alF_mem {f:Nat→Cn→Al} {x:Al}:∀ {l:List Cn} {k:Nat},x∈alF f k l→∃ i c,l[i]?=some c∧x=f (k+i) c
 | [],_,h=>by simp [alF] at h
 | c::l,k,h=>by
  rw [alF] at h
  rcases List.mem_cons.1 h with h|h
  ·exact ⟨0,c,Y,h⟩
  obtain ⟨i,d,h1,h2⟩:=alF_mem h
  exact ⟨i+1,d,by simpa using h1,by rw [h2];congr 1;omega⟩
def CnW (cs:List Cn):Prop:=cs.length≤1000∧∀ c∈cs,c.ts.length≤1000
theorem wid_cmpXX (a:Int) (i:Nat) {cs:List Cn} (h:CnW cs):(cmpXX a i cs).wid:=by
 refine wid_node by17 (by rw [alF_len];exact h.1) (fun x hx=>by rw [List.mem_singleton] at hx;subst hx;exact Yi _ _ _) (fun x hx=>?_)
 obtain ⟨j,c,hc,rfl⟩:=alF_mem hx
 have hn:=h.2 c (Xf hc)
 unfold cmpA
 split
 ·exact wid_alt (wid_patX a _ _ hn) (Yi _ _ _)
 split
 ·exact wid_alt (wid_patX a _ _ hn) (wid_orderX _ _)
 exact wid_alt (wid_patX a _ _ hn) (Yi _ _ _)
theorem wid_eachX (a:Int) {F:Nat→Ex} {cs:List Cn} (h:CnW cs) (hF:∀ i c,cs[i]?=some c→(F i).wid):(eachX a F cs).wid:=by
 refine wid_node by17 (by rw [alF_len];exact h.1) (fun x hx=>by rw [List.mem_singleton] at hx;subst hx;exact Yi _ _ _) (fun x hx=>?_)
 obtain ⟨j,c,hc,rfl⟩:=alF_mem hx
 exact wid_alt (wid_patX a _ _ (h.2 c (Xf hc))) (hF _ c (by rw [Nat.zero_add];exact hc))
theorem wid_lamE (a:Int) {e:Ex} (he:e.wid):∀ l,(lamE a l e).wid
 | []=>he
 | n::l=>wid_node by17 by17 (fun x hx=>by rw [List.mem_singleton] at hx;subst hx;exact wid_lamE a he l) by17
theorem bindX_wid {a:Int} {cs:List Cn} (h:CnW cs) {cl nm:ByteArray} {e:Ex} (hb:bindX a cs cl=some (nm,e)):e.wid:=by
 unfold bindX at hb
 split at hb
 ·cases hb
  refine wid_lamE a (wid_eachX a h (fun i c hc=>?_)) _
  simp only [hc];exact wid_eqXX a _ (h.2 c (Xf hc)) _
 split at hb
 ·cases hb
  exact wid_lamE a (wid_eachX a h (fun i c hc=>wid_cmpXX a i h)) _
 split at hb
 ·cases hb
  refine wid_lamE a (wid_eachX a h (fun i c hc=>?_)) _
  simp only [hc];exact wid_showXX a _ _
 simp at hb
end Go.Proofs.Ytefbicnoddggnaa
namespace Go.Proofs.Ytefbicnoddggnaa
theorem lexF_len:∀ (f:Nat) (i:Int) (l:List Nat) (acc:List Tok),(lexF f i l acc).1.length≤acc.length+l.length+1
 | 0,i,[],acc=>by rw [lexF_nil];simp
 | 0,i,_::_,acc=>by simp [lexF]
 | f+1,i,[],acc=>by rw [lexF_nil];simp
 | f+1,i,c::l,acc=>by
  by_cases h:(oneL i (c::l)).2.2≠0
  ·rw [lexF_bad h];simp
  have h:=Classical.not_not.1 h
  rw [lexF_go h]
  obtain ⟨h1,h2⟩:=oneL_le i c l h
  have:=lexF_len f ((oneL i (c::l)).2.1+ovr false ((c::l).drop ((oneL i (c::l)).2.1 - i).toNat)) (((c::l).drop ((oneL i (c::l)).2.1 - i).toNat).drop (ovr false ((c::l).drop ((oneL i (c::l)).2.1 - i).toNat))) (acc++[(oneL i (c::l)).1])
  simp only [List.length_append,List.length_drop,List.length_cons,List.length_nil] at this ⊢
  omega
theorem scanT_len (s:ByteArray):(scanT s).1.length≤60001:=by
 unfold scanT
 split
 ·simp
 split
 ·simp
 have h:=lexF_len (s.size+1) (ovr false (rst s 0)) ((rst s 0).drop (ovr false (rst s 0))) []
 rw [List.length_drop,rst_len] at h
 simp only [List.length_nil] at h
 omega
open Go.RowKit
theorem begin_c (s:ByteArray):ACall Try.prog 37 [.val (.string s)] [] (fun v M'=>∃ b,v=.ptr b 0∧M'=[.loc b (psC (scanT s).1 (beginP (scanT s)))]):=by
 have HS:=Scan_c s
 obtain ⟨⟨L,e,w⟩,hs⟩:∃ r,scanT s=r:=⟨_,rfl⟩
 rw [hs] at HS ⊢
 have HF:=fun b=>fail_c b L ⟨0,0,0,0⟩ e w
 unfold beginP
 simp only [scanR] at HS ⊢
 refine Zc Try.func37 Y (by kernel_rfl) Y (Xb Y) ?_
 refine Qat ?_
 refine Qs ?_
 refine Zb 9 Y Y Y (Zd (xs:=[.tmp 8]) Y Y (HS) by3 ?_)
 refine Qbc ?_
 refine Qcl ?_
 refine QaR ?_
 refine QaW ?_
 refine Qs ?_
 refine Zb 14 Y Y Y (Zi (ns:=[0]) (xs:=[.tmp 13]) Y tz_88 Y tfl_88 Y Y Y Y (Zb 15 Y Y Y (op_boxe (cs':=[_,_,_,_,_]) Y Y Y Y ?_)));intro b15
 refine Qbz ?_
 refine Q5 ?_;intro c17 h17
 refine Qa ?_
 obtain ⟨rfl,g17⟩|⟨rfl,g17⟩:=Za h17
 ·refine Q3 ?_
  refine Qu ?_
  first
  |(rw [if_pos g17];exact Zg rfl rfl (Yv _) (Yu rfl) ⟨b15,rfl,rfl⟩)
  |(rw [if_neg g17];exact Zg rfl rfl (Yv _) (Yu rfl) ⟨b15,rfl,rfl⟩)
 refine Qk ?_
 refine QJ ?_
 refine Qb ?_
 refine Zb 21 Y Y Y (Zh (xs:=[.tmp 18,.tmp 19,.tmp 20]) (i:=0) Y Y Y (HF b15) by3 ?_)
 refine Qq ?_
 refine Qu ?_
 first
 |(rw [if_pos g17];exact Zg rfl rfl (Yv _) (Yu rfl) ⟨b15,rfl,rfl⟩)
 |(rw [if_neg g17];exact Zg rfl rfl (Yv _) (Yu rfl) ⟨b15,rfl,rfl⟩)
theorem Da.cellss_app' (a b:List Da):Da.cellss (a++b)=Da.cellss a++Da.cellss b:=by simp [Da.cellss]
theorem Cl.cellss_app' (a b:List Cl):Cl.cellss (a++b)=Cl.cellss a++Cl.cellss b:=by simp [Cl.cellss]
theorem In.cellss_app' (a b:List In):In.cellss (a++b)=In.cellss a++In.cellss b:=by simp [In.cellss]
theorem begin_ok (s:ByteArray):POk (scanT s).1 302 (beginP (scanT s)):=by
 have h:∀ e w,POk (scanT s).1 302 (failP ⟨0,0,0,0⟩ e w):=fun e w=>by
  unfold failP
  refine ⟨?_,?_,?_,fun _=>⟨?_,?_⟩⟩ <;> simp
 unfold beginP
 split
 ·exact h _ _
 refine ⟨?_,?_,?_,fun _=>⟨?_,?_⟩⟩ <;> simp
theorem pinPat_c (a:Int) (p:Pa):p.wid→PCall Try.prog 40 [.agg p.cells,.val (.int .i64 a)] (.agg (p.pin a).cells):=by
 obtain ⟨pk,ps,pn,ks,pp⟩:=p
 intro hw
 rw [Pa.wid,Pa.wids_iff] at hw
 obtain ⟨hw1,hw2⟩:=hw
 have IH:∀ x∈ks,PCall Try.prog 40 [.agg x.cells,.val (.int .i64 a)] (.agg (x.pin a).cells):=fun x hx=>pinPat_c a x (hw2 x hx)
 have hl:=Pa.cellss_len ks
 rw [Pa.pin,Pa.pins_map]
 clear hw2
 refine Zc Try.func40 Y (by kernel_rfl) Y (Xb Y) ?_
 refine Qb9 ?_
 refine QaB ?_;intro b4
 refine QG ?_
 refine Ql ?_
 refine Ql ?_
 refine Qaa ?_
 refine Zb 14 Y Y Y (Zi (ns:=[0,1,2,4]) (xs:=[.tmp 8,.tmp 10,.tmp 12,.tmp 13]) (cs':=[_,_,_,_,_]) Y tz_52 Y tfl_52 Y Y Y Y ?_)
 refine QaB ?_;intro b5
 refine Qbo ?_
 refine QL ?_
 refine QM ?_
 refine c_ownNew 52 5 ?_
 apply Yn (rg [(0,1),(3,1),(6,28)]) (σ:=Nat × Value) (fun zz=>match zz with|(i,u)=>[(6,.val (.int .i64 i))]) (fun zz=>match zz with|(i,u)=>[.loc b5 [.val (.int .i64 pk),.val (.string ps),.val (.int .i64 pn),.own u 5 (Pa.cellss ((ks.take i).map (Pa.pin a))),.val (.int .i64 a)],.loc b4 zPaC,.own 52 5 u]) (fun zz=>match zz with|(i,u)=>i≤ks.length) (fun zz=>match zz with|(i,u)=>ks.length - i) ((0,.slice none 0 0))
 ·repeat' (first|exact Xe|apply Xc rfl|apply Xd rfl)
 ·exact Nat.zero_le _
 ·exact by6
 ·exact (MLe.loc _ (Yx (Yv _) (Yx (Yv _) (Yx (Yv _) (Yx (Le.nilOwn 5) (Yw _))))) (Yu Y))
 rintro ⟨i,u⟩ hI
 try dsimp only [List.cons_append,List.nil_append] at hI ⊢
 have hi:=hI
 have hpl:(Pa.cellss ((ks.take i).map (Pa.pin a))).length≤1000:=by rw [Pa.cellss_len,List.length_map,List.length_take];omega
 refine Q6 ?_
 refine Qdu ?_;intro n18
 refine Qm ?_;intro c19 h19
 refine Qa ?_
 obtain ⟨rfl,g19⟩|⟨rfl,g19⟩:=Za h19
 ·refine QN ?_
  rw [List.take_of_length_le by16]
  refine Qj ?_
  refine Qbg ?_
  refine Qdj ?_
  refine Qo ?_
  exact Zl (i:=1) Y Y Y ta_52 Y by2 (Yr _) ⟨Y,Y⟩
 refine Qaf ?_
 obtain ⟨⟨qk,qs,qn,ql,qp⟩,hxq⟩:=Zn (l:=ks) (i:=i) by9
 have hcq:=Pa.cellss_get hxq
 have hmq:=Xf hxq
 have HPq:=IH _ hmq
 have hsn:=Yk hxq
 obtain ⟨⟨rk,rs,rn,rks,rp⟩,hr⟩:∃ r,(Pa.mk qk qs qn ql qp).pin a=r:=⟨_,rfl⟩
 rw [hr] at HPq
 refine Qey ?_
 refine QR ?_
 refine QcU ?_
 refine Qa2 ?_
 refine Qr ?_
 refine Zf 27 (none) (i:=5) Y Y Y Y Y (Zo Y te_50 Y (.seq _ _) Y Y (hcq) ⟨Y,Y⟩) ?_
 refine Qez ?_
 refine Qr ?_
 refine Zf 30 (none) (i:=8) Y Y Y Y Y (Zd (xs:=[.tmp 28,.tmp 29]) Y Y (HPq) by3 ⟨Y,Y⟩) ?_
 refine Zf 31 (none) (i:=9) Y Y Y Y Y (Ze (xs:=[.tmp 30]) el_50 Y Y Y Y Y Y (Xb Y) ⟨Y,Y⟩) ?_
 refine Zz 2 (i:=10) Y Y Y Y Y (Zu (i:=0) el_50 Y Y Y Y (.seq _ _) (by simp only [List.length_map,List.length_reverse,List.length_cons,List.length_nil];omega) (fun u32=>⟨_,Y,?_⟩))
 refine QR ?_
 refine Qea ?_
 show AGo _ _ _ _ _ _ _
 refine Qas ?_
 exact ⟨(i+1,u32),by show i+1≤ks.length;omega,by show ks.length - (i+1)<ks.length - i;omega,by6,(MLe.loc _ (Yx (Yv _) (Yx (Yv _) (Yx (Yv _) (Yx (Xa (by rw [hsn,List.map_append,Pa.cellss_app',List.map_cons,hr];rfl)) (Yw _))))) (Yu Y))⟩
termination_by SizeOf.sizeOf p
decreasing_by exact Pa.lt_kid hx
theorem pin_c (a:Int) (e:Ex):e.wid→PCall Try.prog 17 [.agg e.cells,.val (.int .i64 a)] (.agg (e.pin a).cells):=by
 obtain ⟨ek,es,en,⟨etk,ets,etn,etl⟩,ks,al,bs,ep⟩:=e
 intro hw
 rw [Ex.wid,Ex.wids_iff,Al.wids_iff] at hw
 obtain ⟨hw1,hw2,hw3,hw4⟩:=hw
 have IHK:∀ x∈ks,PCall Try.prog 17 [.agg x.cells,.val (.int .i64 a)] (.agg (x.pin a).cells):=fun x hx=>pin_c a x (hw3 x hx)
 have IHA:∀ q y,Al.mk q y∈al→PCall Try.prog 17 [.agg y.cells,.val (.int .i64 a)] (.agg (y.pin a).cells):=fun q y hx=>by
  have h:=hw4 _ hx
  rw [Al.wid] at h
  have hlt:SizeOf.sizeOf y<SizeOf.sizeOf (Ex.mk ek es en ⟨etk,ets,etn,etl⟩ ks al bs ep):=Nat.lt_trans (Al.lt_e (.mk q y)) (Ex.lt_alt hx)
  exact pin_c a y h.2
 have HQ:∀ q y,Al.mk q y∈al→PCall Try.prog 40 [.agg q.cells,.val (.int .i64 a)] (.agg (q.pin a).cells):=fun q y hx=>by
  have h:=hw4 _ hx
  rw [Al.wid] at h
  exact pinPat_c a q h.1
 have hlk:=Ex.cellss_len ks
 have hla:=Al.cellss_len al
 rw [Ex.pin,Ex.pins_map,Al.pins_map]
 clear hw3 hw4
 refine Zc Try.func17 Y (by kernel_rfl) Y (Xb Y) ?_
 refine Qv ?_
 refine QcF ?_
 refine QH ?_;intro b4
 refine QG ?_
 refine Ql ?_
 refine Ql ?_
 refine Qaa ?_
 refine Zb 15 Y Y Y (Zi (ns:=[0,1,2,7]) (xs:=[.tmp 9,.tmp 11,.tmp 13,.tmp 14]) (cs':=[_,_,_,_,_,_,_,_,_,_,_]) Y tz_47 Y tfl_47 Y Y Y Y ?_)
 refine QH ?_;intro b5
 refine QS ?_
 refine QL ?_
 refine QM ?_
 refine c_ownNew 47 11 ?_
 apply Yn (rg [(0,1),(3,1),(6,1),(8,27)]) (σ:=Nat × Value) (fun zz=>match zz with|(i,u)=>[(6,.val (.int .i64 i))]) (fun zz=>match zz with|(i,u)=>[.loc b5 [.val (.int .i64 ek),.val (.string es),.val (.int .i64 en),.val (.int .i64 0),.val (.string kE),.val (.int .i64 0),.val (.slice none 0 0),.own u 11 (Ex.cellss ((ks.take i).map (Ex.pin a))),.val (.slice none 0 0),.val (.slice none 0 0),.val (.int .i64 a)],.loc b4 zEx,.own 47 11 u]) (fun zz=>match zz with|(i,u)=>i≤ks.length) (fun zz=>match zz with|(i,u)=>ks.length - i) ((0,.slice none 0 0))
 ·repeat' (first|exact Xe|apply Xc rfl|apply Xd rfl)
 ·exact Nat.zero_le _
 ·exact by6
 ·exact (MLe.loc _ (Yx (Yv _) (Yx (Yv _) (Yx (Yv _) (Yx (Yv _) (Yx (Yv _) (Yx (Yv _) (Yx (Yv _) (Yx (Le.nilOwn 11) (Yw _))))))))) (Yu Y))
 rintro ⟨i,u⟩ hI
 try dsimp only [List.cons_append,List.nil_append] at hI ⊢
 have hi:=hI
 have hpl:(Ex.cellss ((ks.take i).map (Ex.pin a))).length≤1000:=by rw [Ex.cellss_len,List.length_map,List.length_take];omega
 refine Q6 ?_
 refine Qdv ?_;intro n19
 refine Qm ?_;intro c20 h20
 refine Qa ?_
 obtain ⟨rfl,g20⟩|⟨rfl,g20⟩:=Za h20
 ·refine QbS ?_
  rw [List.take_of_length_le by16]
  refine Qj ?_
  refine Qbj ?_
  refine c_ownNew 54 16 ?_
  apply Yn (rg [(0,1),(3,1),(6,58)]) (σ:=Nat × Value) (fun zz=>match zz with|(j,v)=>[(7,.val (.int .i64 j))]) (fun zz=>match zz with|(j,v)=>[.loc b5 [.val (.int .i64 ek),.val (.string es),.val (.int .i64 en),.val (.int .i64 0),.val (.string kE),.val (.int .i64 0),.val (.slice none 0 0),.own u 11 (Ex.cellss (ks.map (Ex.pin a))),.own v 16 (Al.cellss ((al.take j).map (Al.pin a))),.val (.slice none 0 0),.val (.int .i64 a)],.loc b4 zEx,.own 47 11 u,.own 54 16 v]) (fun zz=>match zz with|(j,v)=>j≤al.length) (fun zz=>match zz with|(j,v)=>al.length - j) ((0,.slice none 0 0))
  ·repeat' (first|exact Xe|apply Xc rfl|apply Xd rfl)
  ·exact Nat.zero_le _
  ·exact by6
  ·exact (MLe.loc _ (Yx (Yv _) (Yx (Yv _) (Yx (Yv _) (Yx (Yv _) (Yx (Yv _) (Yx (Yv _) (Yx (Yv _) (Yx (Yv _) (Yx (Le.nilOwn 16) (Yw _)))))))))) (Yu Y))
  rintro ⟨j,v⟩ hI
  try dsimp only [List.cons_append,List.nil_append] at hI ⊢
  have hj:=hI
  have hpl2:(Al.cellss ((al.take j).map (Al.pin a))).length≤1000:=by rw [Al.cellss_len,List.length_map,List.length_take];omega
  refine Q6 ?_
  refine Qcq ?_;intro n38
  refine Qm ?_;intro c39 h39
  refine Qa ?_
  obtain ⟨rfl,g39⟩|⟨rfl,g39⟩:=Za h39
  ·refine QN ?_
   rw [List.take_of_length_le by16]
   refine Qj ?_
   refine Qac ?_
   refine Qbp ?_
   refine Qo ?_
   exact Zl (i:=1) Y Y Y Ya Y by2 (Yr _) ⟨Y,Y⟩
  refine Qaf ?_
  obtain ⟨⟨⟨zqk,zqs,zqn,zql,zqp⟩,⟨zk,zs,zn,⟨ztk,zts,ztn,ztl⟩,zks,zal,zbs,zp⟩⟩,hxz⟩:=Zn (l:=al) (i:=j) by9
  have hcz:=Al.cellss_get hxz
  have hmz:=Xf hxz
  have HPz:=HQ _ _ hmz
  have HEz:=IHA _ _ hmz
  have hsn:=Yk hxz
  obtain ⟨⟨pk,ps,pn,pks,pp⟩,hrp⟩:∃ r,(Pa.mk zqk zqs zqn zql zqp).pin a=r:=⟨_,rfl⟩
  rw [hrp] at HPz
  obtain ⟨⟨rk,rs,rn,⟨rtk,rts,rtn,rtl⟩,rks,ral,rbs,rp⟩,hr⟩:∃ r,(Ex.mk zk zs zn ⟨ztk,zts,ztn,ztl⟩ zks zal zbs zp).pin a=r:=⟨_,rfl⟩
  rw [hr] at HEz
  refine Yc [0,1,2,3,4,5,6,7,8,9,10,11,12,13,14,15,16,17,18,19,20,21,22] [20,22] [[],[0],[],[2],[],[2,3,4],[2,3,4,5],[2,3,4,5,6],[],[2,3,4,5,6,7,8],[],[10],[],[10,11,12],[10,11,12,13],[10,11,12,13,14],[],[2,3,4,5,6,7,8,9,10,11,12,13,14,15,16],[2,3,4,5,6,7,8,9,10,11,12,13,14,15,16,17],[2,3,4,5,6,7,8,9,10,11,12,13,14,15,16,17,18],[0,1,2,3,4,5,6,7,8,9,10,11,12,13,14,15,16,17,18,19],[0,1,2,3,4,5,6,7,8,9,10,11,12,13,14,15,16,17,18,19,20],[0,1,2,3,4,5,6,7,8,9,10,11,12,13,14,15,16,17,18,19,20,21]] tmix Y ?_
  refine QR ?_
  refine QcU ?_
  refine Qa2 ?_
  refine Qr ?_
  refine QeA ?_
  refine Qds ?_
  refine Qez ?_
  refine Qr ?_
  refine Zf 51 (none) (i:=9) Y Y Y Y Y (Zd (xs:=[.tmp 49,.tmp 50]) Y Y (HPz) by3 ⟨Y,Y⟩) ?_
  refine Qa2 ?_
  refine Qr ?_
  refine QeA ?_
  refine Qds ?_
  refine QeB ?_
  refine Qr ?_
  refine Zf 59 (none) (i:=17) Y Y Y Y Y (Zd (xs:=[.tmp 57,.tmp 58]) Y Y (HEz) by3 ⟨Y,Y⟩) ?_
  refine Zf 60 (none) (i:=18) Y Y Y Y Y (Zi (ns:=[0,1]) (xs:=[.tmp 51,.tmp 59]) (cs':=[_,_,_,_,_,_,_,_,_,_,_,_,_,_,_,_]) Y tz_54 Y tfl_54 Y Y Y Y ⟨Y,Y⟩) ?_
  refine Zf 61 (none) (i:=19) Y Y Y Y Y (Ze (xs:=[.tmp 60]) el_45 Y Y Y Y Y Y (Xb Y) ⟨Y,Y⟩) ?_
  refine Zz 3 (i:=20) Y Y Y Y Y (Zu (i:=0) el_45 Y Y Y Y (.seq _ _) (by simp only [List.length_map,List.length_reverse,List.length_cons,List.length_nil];omega) (fun u62=>⟨_,Y,?_⟩))
  refine QR ?_
  refine Zz 0 (i:=22) Y Y Y Y Y (Zm (cs':=[_,_,_,_,_,_,_,_,_,_,_]) (i:=0) Y ts_45 Y Y Y Y Y (Xb Y) Y ⟨_,Y,?_⟩)
  show AGo _ _ _ _ _ _ _
  refine Qas ?_
  exact ⟨(j+1,u62),by show j+1≤al.length;omega,by show al.length - (j+1)<al.length - j;omega,by6,(MLe.loc _ (Yx (Yv _) (Yx (Yv _) (Yx (Yv _) (Yx (Yv _) (Yx (Yv _) (Yx (Yv _) (Yx (Yv _) (Yx (Yv _) (Yx (Xa (by rw [hsn,List.map_append,List.map_cons,List.map_nil,Al.cellss_snoc,Al.pin,hrp,hr];rfl)) (Yw _)))))))))) (Yu Y))⟩
 refine Qaf ?_
 obtain ⟨⟨qk,qs,qn,⟨qtk,qts,qtn,qtl⟩,qks,qal,qbs,qp⟩,hxq⟩:=Zn (l:=ks) (i:=i) by9
 have hcq:=Ex.cellss_get hxq
 have hmq:=Xf hxq
 have HPq:=IHK _ hmq
 have hsn:=Yk hxq
 obtain ⟨⟨rk,rs,rn,⟨rtk,rts,rtn,rtl⟩,rks,ral,rbs,rp⟩,hr⟩:∃ r,(Ex.mk qk qs qn ⟨qtk,qts,qtn,qtl⟩ qks qal qbs qp).pin a=r:=⟨_,rfl⟩
 rw [hr] at HPq
 refine Qey ?_
 refine QR ?_
 refine QcU ?_
 refine Qa2 ?_
 refine Qr ?_
 refine Zf 28 (none) (i:=5) Y Y Y Y Y (Zo Y te_44 Y (.seq _ _) Y Y (hcq) ⟨Y,Y⟩) ?_
 refine QeB ?_
 refine Qr ?_
 refine Zf 31 (none) (i:=8) Y Y Y Y Y (Zd (xs:=[.tmp 29,.tmp 30]) Y Y (HPq) by3 ⟨Y,Y⟩) ?_
 refine Zf 32 (none) (i:=9) Y Y Y Y Y (Ze (xs:=[.tmp 31]) Yp Y Y Y Y Y Y (Xb Y) ⟨Y,Y⟩) ?_
 refine Zz 2 (i:=10) Y Y Y Y Y (Zu (i:=0) Yp Y Y Y Y (.seq _ _) (by simp only [List.length_map,List.length_reverse,List.length_cons,List.length_nil];omega) (fun u33=>⟨_,Y,?_⟩))
 refine QR ?_
 refine Qc3 ?_
 show AGo _ _ _ _ _ _ _
 refine Qas ?_
 exact ⟨(i+1,u33),by show i+1≤ks.length;omega,by show ks.length - (i+1)<ks.length - i;omega,by6,(MLe.loc _ (Yx (Yv _) (Yx (Yv _) (Yx (Yv _) (Yx (Yv _) (Yx (Yv _) (Yx (Yv _) (Yx (Yv _) (Yx (Xa (by rw [hsn,List.map_append,Ex.cellss_map,Ex.cellss_map,List.map_append,List.map_cons,hr];rfl)) (Yw _))))))))) (Yu Y))⟩
termination_by SizeOf.sizeOf e
decreasing_by
 ·exact Ex.lt_kid hx
 exact hlt
theorem rExp_c {a:Int} {s:ByteArray} {e:Ex} (h:Parsed a s e):∃ y:Ex,y.pin a=e∧PCall Try.prog 16 [.val (.string s)] (.tup [.agg y.cells,.val (.int .i64 0),.val (.int .i64 0)]):=by
 obtain ⟨y,q,h1,h2,h3,h4⟩:=h
 refine ⟨y,h2,?_⟩
 clear h2 h3
 have HB:=begin_c s
 have hL:=scanT_len s
 have k0:=begin_ok s
 obtain ⟨L,hLe⟩:∃ L,(scanT s).1=L:=⟨_,rfl⟩
 obtain ⟨p0,hp0⟩:∃ p,beginP (scanT s)=p:=⟨_,rfl⟩
 rw [hLe,hp0] at HB k0 h1
 rw [hLe] at hL h4
 have hL:L.length≤100000:=by omega
 have HX:=fun b=>expP_c b L hL p0 k0
 have k1:=(expP_adv' p0 k0).ok k0
 rw [h1] at HX k1
 have HT:=fun b=>take_c b L hL q k1.1 0 kE
 generalize (takeP L q 0 kE).2=q2 at *
 obtain ⟨⟨tk,tt,tn,ta⟩,htk⟩:∃ r,(takeP L q 0 kE).1=r:=⟨_,rfl⟩
 rw [htk] at HT
 obtain ⟨yk,ys,yn,⟨ytk,yts,ytn,ytl⟩,yks,yal,ybs,yp⟩:=y
 refine Zc Try.func16 Y (by kernel_rfl) Y (Xb Y) ?_
 refine Qa0 ?_;intro b2
 refine QaW ?_
 refine Qs ?_
 refine Zb 8 Y Y Y (op_callat [] (xs:=[.tmp 7]) Y Y Y (HB) by3 ?_)
 rintro v M' ⟨b,rfl,rfl⟩
 refine QaI ?_
 refine Zb 10 Y Y Y (Zh (xs:=[.tmp 9]) (i:=0) Y Y Y (HX b) by3 ?_)
 refine QH ?_;intro b6
 refine QS ?_
 refine Qq ?_
 refine Zb 12 Y Y Y (Zh (xs:=[.tmp 11,.const (.int .i64 0),.const (.string ⟨#[]⟩)]) (i:=1) Y Y Y (HT b) by3 ?_)
 refine Q2 ?_
 refine QA ?_
 refine Qao ?_
 refine Q5 ?_;intro c17 h17
 refine Qa ?_
 obtain ⟨rfl,g17⟩|⟨rfl,g17⟩:=Za h17
 ·refine Qb0 ?_
  refine Qac ?_
  refine QbK ?_
  refine Qbv ?_
  first
  | exact Zr (i:=2) rfl rfl rfl rfl rfl Ya rfl by2 (Yr _) ⟨rfl,rfl⟩
  | exact Zr (i:=1) rfl rfl rfl rfl rfl Ya rfl by2 (Yr _) ⟨rfl,rfl⟩
 exact absurd h4 g17
structure DaR (d:Da):Prop where
 len:d.cs.length≤6
 ps:d.ps.length≤1000000
 cn:CnS d.cs
theorem rInst_no {nm:Nat→ByteArray} (hm:NmT nm) (d:Da) (hd:DaR d) (cl:ByteArray) (h:nameT cl=kE):PCall Try.prog 7 [.agg d.cells,.val (.string cl)] (.tup [.agg in0.cells,.val (.bool false)]):=by
 have HT:=text18_c hm d cl hd.cn hd.len
 rw [h] at HT
 obtain ⟨ds,dps,dcs,ddv,dp⟩:=d
 simp only [Da.cells] at *
 refine Zc Try.func7 Y (by kernel_rfl) Y (Xb Y) ?_
 refine Qb9 ?_
 refine Qcy ?_;intro b4
 refine Qd ?_
 refine Qn ?_
 refine Qbr ?_
 refine Qb ?_
 refine Zb 17 Y Y Y (Zd (xs:=[.tmp 15,.tmp 16]) Y Y (HT) by3 ?_)
 refine Qbc ?_
 refine QbZ ?_
 refine Qay ?_;intro c21 h21
 refine Qa ?_
 obtain ⟨rfl,g21⟩|⟨rfl,g21⟩:=Za h21
 ·exact absurd Y g21
 refine Q7 ?_
 refine Qer ?_
 refine QcT ?_
 refine Qu ?_
 exact out_ct (i:=0) Y Y Y Y ta_34 Y by2 (Yr _) ⟨Y,Y⟩
theorem rInst_yes {nm:Nat→ByteArray} (hm:NmT nm) (d:Da) (hd:DaR d) (cl:ByteArray) (h:nameT cl≠kE) (e:Ex) (hw:e.wid) (hP:Parsed d.p (textT nm d.cs cl) e):PCall Try.prog 7 [.agg d.cells,.val (.string cl)] (.tup [.agg (instX d cl (nameT cl) e).cells,.val (.bool true)]):=by
 have HT:=text18_c hm d cl hd.cn hd.len
 obtain ⟨y,hy,HE⟩:=rExp_c hP
 have HN:=pin_c d.p y (Ex.wid_pin d.p y (by rw [hy];exact hw))
 rw [hy] at HN
 clear hy hP hw
 obtain ⟨r,hr⟩:∃ r,instX d cl (nameT cl) e=r:=⟨_,rfl⟩
 rw [hr]
 generalize textT nm d.cs cl=tx at *
 generalize nameT cl=nam at *
 obtain ⟨_,hd2,_⟩:=hd
 obtain ⟨ds,dps,dcs,ddv,dp⟩:=d
 replace hd2:dps.length≤1000000:=hd2
 replace HN:PCall Try.prog 17 [.agg y.cells,.val (.int .i64 dp)] (.agg e.cells):=HN
 have hlp:=strs_len dps
 obtain ⟨yk,ys,yn,⟨ytk,yts,ytn,ytl⟩,yks,yal,ybs,yp⟩:=y
 obtain ⟨ek,es,en,⟨etk,ets,etn,etl⟩,eks,eal,ebs,ep⟩:=e
 simp only [Da.cells] at *
 refine Zc Try.func7 Y (by kernel_rfl) Y (Xb Y) ?_
 refine Qb9 ?_
 refine Qcy ?_;intro b4
 refine Qd ?_
 refine Qn ?_
 refine Qbr ?_
 refine Qb ?_
 refine Zb 17 Y Y Y (Zd (xs:=[.tmp 15,.tmp 16]) Y Y (HT) by3 ?_)
 refine Qbc ?_
 refine QbZ ?_
 refine Qay ?_;intro c21 h21
 refine Qa ?_
 obtain ⟨rfl,g21⟩|⟨rfl,g21⟩:=Za h21
 ·refine Q3 ?_
  refine Zb 25 Y Y Y (Zd (xs:=[.tmp 24]) Y Y (HE) by3 ?_)
  refine Qbc ?_
  refine Qcl ?_
  refine QH ?_;intro b8
  refine QS ?_
  refine QaW ?_
  refine QE ?_
  refine Yc [0,1,2,3,4,5,6,7,8,9,10,11,12,13,14,15,16,17] [16,17] [[],[],[1],[1,2],[],[],[],[6],[5,6,7],[],[9],[4,5,6,7,8,9,10],[4,5,6,7,8,9,10,11],[],[13],[0,1,2,3,4,5,6,7,8,9,10,11,12,13,14],[],[0,1,2,3,4,5,6,7,8,9,10,11,12,13,14,15,16]] tmix Y ?_
  refine Qr ?_
  refine Qa2 ?_
  refine Zf 32 (none) (i:=3) Y Y Y Y Y (Zi (ns:=[0,1]) (xs:=[.const (.int .i64 3),.tmp 31]) (cs':=[_,_,_,_]) Y tz_30 Y tfl_30 Y Y Y Y ⟨Y,Y⟩) ?_
  refine Qr ?_
  refine QcR ?_
  refine Qa2 ?_
  refine Zf 37 (none) (i:=8) Y Y Y Y Y (Zd (xs:=[.tmp 34,.tmp 36]) Y Y (HN) by3 ⟨Y,Y⟩) ?_
  refine Qa2 ?_
  refine Zf 40 (none) (i:=11) Y Y Y Y Y (Zi (ns:=[0,1,2]) (xs:=[.tmp 33,.tmp 37,.tmp 39]) (cs':=[_,_,_,_,_,_,_,_,_,_,_,_,_]) Y tz_49 Y tfl_49 Y Y Y Y ⟨Y,Y⟩) ?_
  refine Zf 41 (none) (i:=12) Y Y Y Y Y (Ze (xs:=[.tmp 40]) el_32 Y Y Y Y Y Y (Xb Y) ⟨Y,Y⟩) ?_
  refine Qa2 ?_
  refine Zf 44 (none) (i:=15) Y Y Y Y Y (Zi (ns:=[0,1,3,4]) (xs:=[.tmp 29,.tmp 32,.tmp 41,.tmp 43]) (cs':=[_,_,_,_,_,_,_,_]) Y tz_34 Y tfl_34 Y Y Y Y ⟨Y,Y⟩) ?_
  refine EOps.nw (i:=16) Y Y Y (op_alloce (cs':=[_,_,_,_,_,_,_,_]) Y tz_34 Y Y (fun b11=>⟨_,Y,?_⟩))
  refine Zz 2 (i:=17) Y Y Y Y Y (Zm (cs':=[_,_,_,_,_,_,_,_]) (i:=0) Y ts_34 Y Y Y Y Y (Xb Y) Y ⟨_,Y,?_⟩)
  show AGo _ _ _ _ _ _ _
  refine QaP ?_
  refine QM ?_
  refine c_ownNew 30 4 (c_ownNew 61 5 ?_)
  apply Yn (rg [(0,1),(3,1),(6,5),(12,22),(35,39)]) (σ:=Nat × Value × Value) (fun zz=>match zz with|(i,u,v)=>[(12,.val (.int .i64 i))]) (fun zz=>match zz with|(i,u,v)=>[.loc b4 zIn,.loc b11 [.val (.string cl),.val (.int .i64 3),.val (.string ds),.val (.int .i64 0),.own u 4 (Ty.cellss ((dps.take i).map parT)),.own v 5 (Pr.cellss ((dps.take i).map fun s=>Pr.mk cl (parT s))),.seq 13 (Bi.cellss [.mk nam (.mk ek es en ⟨etk,ets,etn,etl⟩ eks eal ebs ep) dp]),.val (.int .i64 dp)],.own 30 4 u,.own 61 5 v]) (fun zz=>match zz with|(i,u,v)=>i≤dps.length) (fun zz=>match zz with|(i,u,v)=>dps.length - i) ((0,.slice none 0 0,.slice none 0 0))
  ·repeat' (first|exact Xe|apply Xc rfl|apply Xd rfl)
  ·exact Nat.zero_le _
  ·exact by6
  ·exact (Yt _ (Ys _ (MLe.loc _ (Yx (Yv _) (Yx (Yv _) (Yx (Yv _) (Yx (Yv _) (Yx (Le.nilOwn 4) (Yx (Le.nilOwn 5) (Yx (Yv _) (Yw _)))))))) (Yu Y))))
  rintro ⟨i,u,v⟩ hI
  try dsimp only [List.cons_append,List.nil_append] at hI ⊢
  have hi:=hI
  have ht1:(Ty.cellss ((dps.take i).map parT)).length≤1000000:=by rw [Ty.cellss_len,List.length_map,List.length_take];omega
  have ht2:(Pr.cellss ((dps.take i).map fun s=>Pr.mk cl (parT s))).length≤1000000:=by rw [Pr.cellss_len,List.length_map,List.length_take];omega
  refine Q6 ?_
  refine Qcs ?_;intro n48
  refine Qm ?_;intro c49 h49
  refine Qa ?_
  obtain ⟨rfl,g49⟩|⟨rfl,g49⟩:=Za h49
  ·refine QN ?_
   rw [List.take_of_length_le by16]
   subst hr
   refine Qj ?_
   refine Zb 74 Y Y Y (Zx (cs':=[_,_,_,_,_,_,_,_]) (i:=1) Y ta_34 Y Y Y Y ?_)
   refine QcT ?_
   refine Qu ?_
   exact out_ct (i:=0) Y Y Y Y ta_34 Y by2 (Yr _) ⟨Y,Y⟩
  refine QI ?_
  obtain ⟨q,hxq⟩:=Zn (l:=dps) (i:=i) by9
  have hcq:=strs_get hxq
  have hmq:=Xf hxq
  refine Qj ?_
  refine Qaa ?_
  refine Qdp ?_
  refine Qck ?_
  refine Zb 57 Y Y Y (Zi (ns:=[0,1]) (xs:=[.const (.int .i64 1),.tmp 56]) (cs':=[_,_,_,_]) Y tz_30 Y tfl_30 Y Y Y Y ?_)
  refine Qct ?_;intro b13
  refine Qcu ?_
  refine Qa ?_
  refine QbN ?_
  refine Qx ?_
  refine Qa6 ?_
  refine Qcv ?_
  refine Zb 62 Y Y Y (Ze (xs:=[.tmp 61]) el_28 Y Y Y Y Y Y (Xb Y) ?_)
  refine Qet ?_
  intro u63
  refine Qx ?_
  refine Qx ?_
  refine Zq Y Y (Zm (cs':=[_,_,_,_,_,_,_,_]) (i:=2) Y ts_28 Y Y Y Y Y (Xb Y) Y ?_)
  refine Qa ?_
  refine Qbw ?_
  refine Qa6 ?_
  refine Qb ?_
  refine Qcv ?_
  refine Zb 70 Y Y Y (Zi (ns:=[0,1]) (xs:=[.tmp 68,.tmp 69]) (cs':=[_,_,_,_,_]) Y tz_61 Y tfl_61 Y Y Y Y (Zb 71 Y Y Y (Ze (xs:=[.tmp 70]) el_31 Y Y Y Y Y Y (Xb Y) ?_)))
  refine Qeu ?_
  intro u72
  refine Qx ?_
  refine Zq Y Y (Zm (cs':=[_,_,_,_,_,_,_,_]) (i:=2) Y ts_31 Y Y Y Y Y (Xb Y) Y ?_)
  refine Q0 ?_
  refine Qas ?_
  have hsn:=Yk hxq
  exact ⟨(i+1,u63,u72),by show i+1≤dps.length;omega,by show dps.length - (i+1)<dps.length - i;omega,by6,Yt _ (Ys _ (MLe.loc _ (Yx (Yv _) (Yx (Yv _) (Yx (Yv _) (Yx (Yv _) (Yx (by rw [hsn,List.map_append];exact Le.own_less (Ty.cellss_app1 _ _)) (Yx (by rw [hsn,List.map_append];exact preds_snoc _ _ _) (Yx (Yv _) (Yw _)))))))) (Yu Y)))⟩
 exact absurd g21 h
theorem bindX_name {a:Int} {cs:List Cn} {cl nm:ByteArray} {e:Ex} (h:bindX a cs cl=some (nm,e)):nm=nameT cl∧nameT cl≠kE:=by
 unfold bindX at h
 by_cases h1:cl=kcEq
 ·rw [if_pos h1] at h;cases h;rw [h1,name_eq];exact ⟨rfl,kc_ne.2.2.2.2.2⟩
 by_cases h2:cl=kcOrd
 ·rw [if_neg h1,if_pos h2] at h;cases h;rw [h2,name_ord];exact ⟨rfl,kc_ne.2.2.2.2.1⟩
 by_cases h3:cl=kcShow
 ·rw [if_neg h1,if_neg h2,if_pos h3] at h;cases h;rw [h3,name_show];exact ⟨rfl,kc_ne.2.2.2.1⟩
 rw [if_neg h1,if_neg h2,if_neg h3] at h;simp at h
theorem bindX_none {a:Int} {cs:List Cn} {cl:ByteArray} (h:bindX a cs cl=none):nameT cl=kE:=by
 unfold bindX at h
 by_cases h1:cl=kcEq
 ·rw [if_pos h1] at h;simp at h
 by_cases h2:cl=kcOrd
 ·rw [if_neg h1,if_pos h2] at h;simp at h
 by_cases h3:cl=kcShow
 ·rw [if_neg h1,if_neg h2,if_pos h3] at h;simp at h
 exact name_not h1 h2 h3
theorem bindX_law {a:Int} {cs:List Cn} (hg:DtG cs) {cl nm:ByteArray} {e:Ex} (h:bindX a cs cl=some (nm,e)):Parsed a (textT num cs cl) e:=by
 have hne:=(bindX_name h).2
 have:=text_law num_good num_size a hg hne
 unfold bindX at h
 by_cases h1:cl=kcEq
 ·rw [if_pos h1] at h this;cases h;rw [← eqB_law a hg.ne];exact this
 by_cases h2:cl=kcOrd
 ·rw [if_neg h1,if_pos h2] at h this;cases h;rw [← ordB_law a hg.ne];exact this
 by_cases h3:cl=kcShow
 ·rw [if_neg h1,if_neg h2,if_pos h3] at h;rw [if_neg h1,if_neg h2] at this;cases h;rw [← showB_law a hg.ne];exact this
 rw [if_neg h1,if_neg h2,if_neg h3] at h;simp at h
theorem DtG.cns {cs:List Cn} (h:DtG cs):CnS cs:=fun c hc=>⟨h.sz c hc,(h.cn c hc).2⟩
theorem rInst_c (d:Da) (hg:DtG d.cs) (hp:d.ps.length≤1000000) (cl:ByteArray):PCall Try.prog 7 [.agg d.cells,.val (.string cl)] (.tup [.agg (instR d cl).1.cells,.val (.bool (decide ((instR d cl).2=0)))]):=by
 have hd:DaR d:=⟨hg.len,hp,hg.cns⟩
 unfold instR
 cases hb:bindX d.p d.cs cl with
 | none=>exact rInst_no num_t d hd cl (bindX_none hb)
 | some x =>
  obtain ⟨nm,e⟩:=x
  obtain ⟨rfl,hne⟩:=bindX_name hb
  have hw:CnW d.cs:=⟨by have:=hg.len;omega,fun c hc=>by have:=(hg.cn c hc).2;omega⟩
  exact rInst_yes num_t d hd cl hne e (bindX_wid hw hb) (bindX_law hg hb)
theorem DtG.das {d:Da} (hg:DtG d.cs) (hp:d.ps.length≤1000000):DaS d:=⟨by have:=hg.len;omega,hp,fun c hc=>⟨by have:=(hg.cn c hc).2;omega,by have:=hg.sz c hc;omega⟩⟩
end Go.Proofs.Ytefbicnoddggnaa
