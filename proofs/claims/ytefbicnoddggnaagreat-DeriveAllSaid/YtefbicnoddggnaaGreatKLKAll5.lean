/- DeriveAll: any program that is parsed from any bytes has the document's derived instances, or its first fault. -/
import Derived.Test.YtefbicnoddggnaaGreatKLKAll4
import Derived.RangeFuncNested
import Derived.Test.YtefbicnoddggnaaGreatChecked
import Derived.Test.YtefbicnoddggnaaGreatRows
set_option maxRecDepth 100000
set_option maxHeartbeats 4000000
namespace Go.Proofs.YtefbicnoddggnaaGreat
open Go.RowKit
def hatE (a:Int) (x y:Ex):Ex:=opE 5 [opE 5 [namE 3 kHat a,x] a,y] a
def aheadB (c:ByteArray) (j:Nat):ByteArray:=if j=0 then ⟨#[40]⟩++c++⟨#[32]⟩ else ⟨#[32]⟩
def showK (a:Int) (j:Nat):Ex:=opE 5 [namE 3 kShw a,namE 3 (kX++num j) a] a
def shW (a:Int) (c:ByteArray):Nat→Nat→Ex
 | j,0=>hatE a (namE 2 (aheadB c j) a) (hatE a (showK a j) (namE 2 ⟨#[41]⟩ a))
 | j,r+1=>hatE a (namE 2 (aheadB c j) a) (hatE a (showK a j) (shW a c (j+1) r))
def shV (a:Int) (c:ByteArray) (n j:Nat):Ex:=if j=n then namE 2 ⟨#[41]⟩ a else shW a c j (n - 1 - j)
theorem shV_step (a:Int) (c:ByteArray) {n j:Nat} (h:j<n):shV a c n j=hatE a (namE 2 (aheadB c j) a) (hatE a (showK a j) (shV a c n (j+1))):=by
 obtain ⟨r,rfl⟩:∃ r,n=j+1+r:=⟨n - j - 1,by omega⟩
 unfold shV
 rw [if_neg by18,show j+1+r - 1 - j=r by omega]
 cases r with
 | zero=>rw [if_pos by18];rfl
 | succ r=>rw [if_neg by18,show j+1+(r+1) - 1 - (j+1)=r by omega];rfl
def shG:Nat→Nat→List Opd
 | j,0=>[showO num j]
 | j,r+1=>showO num j::strO ⟨#[32]⟩::shG (j+1) r
theorem shG_snoc:∀ r j,shG j (r+1)=shG j r++[strO ⟨#[32]⟩,showO num (j+r+1)]
 | 0,j=>rfl
 | r+1,j=>by
  rw [shG,shG_snoc r (j+1)]
  show _=showO num j::strO ⟨#[32]⟩::shG (j+1) r++_
  rw [show j+1+r+1=j+(r+1)+1 by omega]
  rfl
theorem shL_G:∀ n,shL num (n+1)=shG 0 n
 | 0=>rfl
 | n+1=>by
  rw [shL,if_pos by18,shL_G n,shG_snoc,List.append_assoc,show 0+n+1=n+1 by omega]
  rfl
theorem bin_hat (a:Int) (x y:Ex):binE ⟨5,kHat,0,a⟩ x y=hatE a x y:=by
 exact (if_neg (show ¬ kHat=kAA by decide +kernel)).trans (if_neg (show ¬ kHat=kOO by decide +kernel))
theorem shW_law (a:Int) (c:ByteArray):∀ r j,chX a kHat (strO (aheadB c j)) (shG j r++[strO ⟨#[41]⟩])=shW a c j r
 | 0,j=>by
  show binE _ _ (binE _ _ _)=_
  rw [bin_hat,bin_hat]
  rfl
 | r+1,j=>by
  have h:=shW_law a c r (j+1)
  rw [shW,← h]
  show binE _ _ (binE _ _ _)=_
  rw [bin_hat,bin_hat]
  rw [show aheadB c (j+1)=⟨#[32]⟩ from if_neg by18]
  rfl
def showXX (a:Int) (c:ByteArray) (n:Nat):Ex:=if n=0 then namE 2 c a else shV a c n 0
theorem showXX_law (a:Int) (c:Cn):(showD num c).ex a=showXX a c.s c.ts.length:=by
 unfold showD showXX
 by_cases h:c.ts.length=0
 ·rw [if_pos h,if_pos h];rfl
 rw [if_neg h,if_neg h]
 obtain ⟨n,hn⟩:∃ n,c.ts.length=n+1:=⟨c.ts.length - 1,by omega⟩
 rw [hn]
 unfold shV
 rw [if_neg by18,show n+1 - 1 - 0=n by omega,← shW_law,shL_G]
 rfl
theorem m_show_c (d:Da) (a:Int) (i:Nat) (c:Cn) (hc:d.cs[i]?=some c) (hn:c.ts.length≤1000000) (hsz:c.s.size≤1000000):PCall Tryz.prog 35 [.agg (mkC d a),.val (.int .i64 i)] (.agg (showXX a c.s c.ts.length).cells):=by
 have HT:=fun s=>m_text_c d a s
 have HN:=fun s=>m_name_c d a s
 have HA:=fun k h=>m_arg_c kX by17 k h
 have HP:=fun f l=>m_apply_c d a f l
 obtain ⟨ds,dps,dcs,ddv,dp⟩:=d
 obtain ⟨cs,cts,cp⟩:=c
 replace hn:cts.length≤1000000:=hn
 replace hsz:cs.size≤1000000:=hsz
 replace hc:dcs[i]?=some (Cn.mk cs cts cp):=hc
 have hl:=Ty.cellss_len cts
 have hlc:=Cn.cellss_len dcs
 have hcc:=Cn.cellss_get hc
 have hz40:(⟨#[40]⟩:ByteArray).size=1:=rfl
 have hz32:(⟨#[32]⟩:ByteArray).size=1:=rfl
 have hsa:(⟨#[40]⟩++cs:ByteArray).size≤1000001:=by rw [ByteArray.size_append];omega
 obtain ⟨r,hr⟩:∃ r,showXX a cs cts.length=r:=⟨_,rfl⟩
 show PCall Tryz.prog _ _ (.agg (showXX a cs cts.length).cells)
 rw [hr]
 unfold showXX at hr
 unfold mkC at *
 simp only [Da.cells,List.cons_append,List.nil_append] at *
 have HT1:=HT cs
 have HT2:=HT ⟨#[41]⟩
 refine Zc Tryz.func35 Y (by kernel_rfl) Y (Xm Y) ?_
 refine QcC ?_;intro b4
 refine QA ?_
 refine Qbi ?_
 refine Qay ?_
 refine QdO ?_
 refine QcN ?_
 refine Qcb ?_;intro b5
 refine Qcc ?_
 refine QbD ?_
 refine QW ?_;intro n17
 refine Qj ?_;intro c18 h18
 refine Qa ?_
 obtain ⟨rfl,g18⟩|⟨rfl,g18⟩:=Za h18
 ·refine Q7 ?_
  rw [if_neg by18] at hr
  refine Qi ?_
  refine QcK ?_
  refine Zb 24 Y Y Y (Ze (xs:=[.tmp 23,.const (.string ⟨#[41]⟩)]) Y Y (HT2) by3 ?_)
  refine QI ?_;intro b6
  refine QS ?_
  refine Qv ?_
  refine QaY ?_
  refine QW ?_;intro n27
  refine QT ?_
  refine Qf ?_
  refine Qam ?_
  apply Ye (rg [(0,2),(3,1),(7,49)]) (σ:=Nat × Ex) (fun zz=>match zz with|(j,x)=>[(7,.val (.int .i64 ((j:Int) - 1)))]) (fun zz=>match zz with|(j,x)=>[.loc b6 x.cells,.loc b5 (Cn.mk cs cts cp).cells,.loc b4 zEx]) (fun zz=>match zz with|(j,x)=>j≤cts.length∧shV a cs cts.length j=x) (fun zz=>match zz with|(j,x)=>j) ((cts.length,namE 2 ⟨#[41]⟩ a))
  ·repeat' (first|exact Xp|apply Xn rfl|apply Xo rfl)
  ·exact ⟨Nat.le_refl _,by unfold shV;exact if_pos Y⟩
  ·exact Xj Y (Le.ieq by18) by6
  ·exact by5
  rintro ⟨j,⟨xk,xs,xn,⟨xtk,xts,xtn,xtl⟩,xks,xal,xbs,xp⟩⟩ hI
  try dsimp only [List.cons_append,List.nil_append] at hI ⊢
  obtain ⟨hj,hA⟩:=hI
  refine Qw ?_
  refine QcG ?_;intro c30 h30
  refine Qa ?_
  obtain ⟨rfl,g30⟩|⟨rfl,g30⟩:=Za h30
  ·refine QE ?_
   obtain rfl:j=0:=by omega
   rw [hA] at hr
   subst hr
   refine Qi ?_
   refine Qak ?_
   refine Qca ?_
   refine Ql ?_
   exact Zn (i:=2) Y Y Y Yf Y by4 (Xb _) ⟨Y,Y⟩
  refine Qx ?_
  obtain ⟨j,rfl⟩:∃ k,j=k+1:=⟨j - 1,by omega⟩
  rw [show (((j+1:Nat):Int) - 1)=(j:Int) by omega]
  have HAj:=HA j by18
  have HNj:=HN (kX++num j)
  have H1:PCall Tryz.prog 66 _ (.agg (showK a j).cells):=HP kShw [namE 3 (kX++num j) a]
  have H2:PCall Tryz.prog 66 _ (.agg (hatE a (showK a j) (.mk xk xs xn ⟨xtk,xts,xtn,xtl⟩ xks xal xbs xp)).cells):=HP kHat [showK a j,.mk xk xs xn ⟨xtk,xts,xtn,xtl⟩ xks xal xbs xp]
  have H3:PCall Tryz.prog 66 _ (.agg (hatE a (namE 2 (aheadB cs j) a) (hatE a (showK a j) (.mk xk xs xn ⟨xtk,xts,xtn,xtl⟩ xks xal xbs xp))).cells):=HP kHat [namE 2 (aheadB cs j) a,hatE a (showK a j) (.mk xk xs xn ⟨xtk,xts,xtn,xtl⟩ xks xal xbs xp)]
  have H0:=HT (aheadB cs j)
  have hst:=shV_step a cs (n:=cts.length) (j:=j) by18
  rw [hA] at hst
  unfold hatE showK at H1 H2 H3 hst
  generalize kX++num j=nx at *
  refine Qi ?_
  refine Qcs ?_
  refine Qj ?_;intro c34 h34
  refine Qa ?_
  obtain ⟨rfl,g34⟩|⟨rfl,g34⟩:=Za h34
  ·refine QN ?_
   first
   | rw [show aheadB cs j=⟨#[40]⟩++cs++⟨#[32]⟩ from if_pos by18] at H0 H3 hst
   | rw [show aheadB cs j=⟨#[32]⟩ from if_neg by18] at H0 H3 hst
   refine Qfl ?_
   refine QcD ?_
   refine Qp ?_
   refine Zh 42 (none) (i:=3) Y Y Y Y Y (Ze (xs:=[.tmp 40,.tmp 41]) Y Y (H0) by3 ⟨Y,Y⟩) ?_
   refine QcD ?_
   refine QaC ?_
   refine Qp ?_
   refine Zh 47 (none) (i:=8) Y Y Y Y Y (Ze (xs:=[.const (.string ⟨#[120]⟩),.tmp 46]) Y Y (HAj) by3 ⟨Y,Y⟩) ?_
   refine Zh 48 (none) (i:=9) Y Y Y Y Y (Ze (xs:=[.tmp 45,.tmp 47]) Y Y (HNj) by3 ⟨Y,Y⟩) ?_
   refine Qfm ?_
   refine Zh 50 (none) (i:=11) Y Y Y Y Y (Ze (xs:=[.tmp 44,.const (.string ⟨#[115,104,111,119]⟩),.tmp 49]) Y Y (H1) by3 ⟨Y,Y⟩) ?_
   refine Qc9 ?_
   refine Qfn ?_
   refine Zh 53 (none) (i:=14) Y Y Y Y Y (Ze (xs:=[.tmp 43,.const (.string ⟨#[94]⟩),.tmp 52]) Y Y (H2) by3 ⟨Y,Y⟩) ?_
   refine Qfo ?_
   refine Zh 55 (none) (i:=16) Y Y Y Y Y (Ze (xs:=[.tmp 39,.const (.string ⟨#[94]⟩),.tmp 54]) Y Y (H3) by3 ⟨Y,Y⟩) ?_
   refine QcL ?_
   show AGo _ _ _ _ _ _ _
   refine Qbm ?_
   refine Qe ?_
   refine QT ?_
   refine Qap ?_
   exact ⟨(j,_),⟨by omega,hst⟩,by show j<j+1;omega,by6,by0⟩
  refine Qh ?_
  refine QaX ?_
  refine Qbj ?_
  refine Qc8 ?_
  refine Qc8 ?_
  refine Qf ?_
  first
  | rw [show aheadB cs j=⟨#[40]⟩++cs++⟨#[32]⟩ from if_pos by18] at H0 H3 hst
  | rw [show aheadB cs j=⟨#[32]⟩ from if_neg by18] at H0 H3 hst
  refine Qfl ?_
  refine QcD ?_
  refine Qp ?_
  refine Zh 42 (none) (i:=3) Y Y Y Y Y (Ze (xs:=[.tmp 40,.tmp 41]) Y Y (H0) by3 ⟨Y,Y⟩) ?_
  refine QcD ?_
  refine QaC ?_
  refine Qp ?_
  refine Zh 47 (none) (i:=8) Y Y Y Y Y (Ze (xs:=[.const (.string ⟨#[120]⟩),.tmp 46]) Y Y (HAj) by3 ⟨Y,Y⟩) ?_
  refine Zh 48 (none) (i:=9) Y Y Y Y Y (Ze (xs:=[.tmp 45,.tmp 47]) Y Y (HNj) by3 ⟨Y,Y⟩) ?_
  refine Qfm ?_
  refine Zh 50 (none) (i:=11) Y Y Y Y Y (Ze (xs:=[.tmp 44,.const (.string ⟨#[115,104,111,119]⟩),.tmp 49]) Y Y (H1) by3 ⟨Y,Y⟩) ?_
  refine Qc9 ?_
  refine Qfn ?_
  refine Zh 53 (none) (i:=14) Y Y Y Y Y (Ze (xs:=[.tmp 43,.const (.string ⟨#[94]⟩),.tmp 52]) Y Y (H2) by3 ⟨Y,Y⟩) ?_
  refine Qfo ?_
  refine Zh 55 (none) (i:=16) Y Y Y Y Y (Ze (xs:=[.tmp 39,.const (.string ⟨#[94]⟩),.tmp 54]) Y Y (H3) by3 ⟨Y,Y⟩) ?_
  refine QcL ?_
  show AGo _ _ _ _ _ _ _
  refine Qbm ?_
  refine Qe ?_
  refine QT ?_
  refine Qap ?_
  exact ⟨(j,_),⟨by omega,hst⟩,by show j<j+1;omega,by6,by0⟩
 refine QaG ?_
 rw [if_pos by18] at hr
 subst hr
 refine Qi ?_
 refine QcK ?_
 refine Qar ?_
 refine Zb 22 Y Y Y (Ze (xs:=[.tmp 19,.tmp 21]) Y Y (HT1) by3 ?_)
 refine QbJ ?_
 refine Ql ?_
 exact Zn (i:=1) Y Y Y Yf Y by4 (Xb _) ⟨Y,Y⟩
def eachX (a:Int) (F:Nat→Ex) (cs:List Cn):Ex:=.mk 8 kE 0 ty0 [namE 3 kX a] (alF (fun k c=>.mk (patX a c.s kX c.ts.length) (F k)) 0 cs) [] a
theorem eachX_law (a:Int) (one:Nat→Cn→Dx) (F:Nat→Ex) {cs:List Cn} (hne:cs≠[]) (h:∀ k c,cs[k]?=some c→(one k c).ex a=F k):(allD num one cs).ex a=eachX a F cs:=by
 unfold allD eachX
 rw [casD_ex a _ _ hne]
 have e:∀ (l:List Cn) (k:Nat),(∀ j c,l[j]?=some c→(one (k+j) c).ex a=F (k+j))→alF (fun k c=>Al.mk (paX a (allG num one k c).1) ((allG num one k c).2.ex a)) k l=alF (fun k c=>.mk (patX a c.s kX c.ts.length) (F k)) k l:=by
  intro l
  induction l with
  | nil=>intro k _;rfl
  | cons c l ih =>
   intro k hk
   rw [alF,alF,ih (k+1) (fun j c' hj=>by
    have:=hk (j+1) c' (by simpa using hj)
    rw [show k+(j+1)=k+1+j by omega] at this
    exact this)]
   have h0:=hk 0 c by19
   rw [Nat.add_zero] at h0
   unfold allG
   simp only []
   rw [patX_law,h0]
 rw [e cs 0 (fun j c hj=>by rw [Nat.zero_add];exact h j c hj)]
 rfl
theorem m_each_c (d:Da) (a:Int) (f:FuncId) (F:Nat→Ex) (hF:∀ i,i<d.cs.length→PCall Tryz.prog f [.agg (mkC d a),.val (.int .i64 i)] (.agg (F i).cells)) (hn:∀ c∈d.cs,c.ts.length≤1000000) (hd:d.cs.length≤1000000):PCall Tryz.prog 32 [.agg (mkC d a),.clo (.func f) [.agg (mkC d a)] []] (.agg (eachX a F d.cs).cells):=by
 have HY:=m_name_c d a kX
 have HP:=fun c h2=>m_pattern_c d a c kX by17 h2
 have HC:=m_cases_c d a (namE 3 kX a) (alF (fun k c=>.mk (patX a c.s kX c.ts.length) (F k)) 0 d.cs)
 obtain ⟨ds,dps,dcs,ddv,dp⟩:=d
 replace hn:∀ c∈dcs,c.ts.length≤1000000:=hn
 replace hd:dcs.length≤1000000:=hd
 replace hF:∀ i,i<dcs.length→PCall Tryz.prog f [.agg (mkC (Da.mk ds dps dcs ddv dp) a),.val (.int .i64 i)] (.agg (F i).cells):=hF
 show PCall Tryz.prog _ _ (.agg (eachX a F dcs).cells)
 replace HC:PCall Tryz.prog 60 [.agg (mkC (Da.mk ds dps dcs ddv dp) a),.agg (namE 3 kX a).cells,.seq 16 (Al.cellss (alF (fun k c=>.mk (patX a c.s kX c.ts.length) (F k)) 0 dcs))] (.agg (eachX a F dcs).cells):=HC
 have hlc:=Cn.cellss_len dcs
 unfold mkC eachX at *
 simp only [Da.cells,List.cons_append,List.nil_append] at *
 refine Zc Tryz.func32 Y (by kernel_rfl) Y (Xm Y) ?_
 refine QcC ?_;intro b4
 refine Qa ?_
 refine Qcm ?_
 refine Qo ?_
 refine Qbi ?_
 refine Qy ?_
 refine Qbl ?_;intro n11
 refine QaN ?_
 refine Yb 65 16 ?_
 apply Ye (rg [(0,1),(3,1),(5,5),(12,16)]) (σ:=Nat × Value) (fun zz=>match zz with|(k,u)=>[(12,.val (.int .i64 k)),(5,.own u 16 (Al.cellss (alF (fun k c=>.mk (patX a c.s kX c.ts.length) (F k)) 0 (dcs.take k))))]) (fun zz=>match zz with|(k,u)=>[.loc b4 zEx,.own 65 16 u]) (fun zz=>match zz with|(k,u)=>k≤dcs.length) (fun zz=>match zz with|(k,u)=>dcs.length - k) ((0,.slice none 0 0))
 ·repeat' (first|exact Xp|apply Xn rfl|apply Xo rfl)
 ·exact Nat.zero_le _
 ·exact Xj Y (Xg _) (Xj Y (Le.nilOwn 16) (SLe.nil _))
 ·exact (Xf Y)
 rintro ⟨k,u⟩ hI
 try dsimp only [List.cons_append,List.nil_append] at hI ⊢
 have hk:=hI
 have hal:(Al.cellss (alF (fun k c=>.mk (patX a c.s kX c.ts.length) (F k)) 0 (dcs.take k))).length≤1000000:=by
  rw [Al.cellss_map,List.length_map,alF_len,List.length_take];omega
 refine QaO ?_;intro c13 h13
 refine Qv ?_
 obtain ⟨rfl,g13⟩|⟨rfl,g13⟩:=Za h13
 ·refine QE ?_
  rw [List.take_of_length_le by18]
  refine QdP ?_
  refine QcD ?_
  refine Zh 30 (none) (i:=2) Y Y Y Y Y (Ze (xs:=[.tmp 29,.const (.string ⟨#[120]⟩)]) Y Y (HY) by3 ⟨Y,Y⟩) ?_
  refine Qp ?_
  refine Zh 32 (none) (i:=4) Y Y Y Y Y (Ze (xs:=[.tmp 28,.tmp 30,.tmp 31]) Y Y (HC) by3 ⟨Y,Y⟩) ?_
  refine QcL ?_
  show AGo _ _ _ _ _ _ _
  refine QX ?_
  exact Zn (i:=0) Y Y Y Yf Y by4 (Xb _) ⟨Y,Y⟩
 refine Qx ?_
 obtain ⟨⟨qs,qts,qp⟩,hxq⟩:=Zo (l:=dcs) (i:=k) by9
 have hcq:=Cn.cellss_get hxq
 have hmq:=Xq hxq
 have hnq:qts.length≤1000000:=hn _ hmq
 have hsn:=Yg hxq
 have htl:(dcs.take k).length=k:=by rw [List.length_take];omega
 have HPE:PCall Tryz.prog 59 _ (.agg (patX a qs kX qts.length).cells):=HP (Cn.mk qs qts qp) hnq
 have HFk:=hF k by18
 obtain ⟨⟨ok,os,on,⟨otk,ots,otn,otl⟩,oks,oal,obs,op⟩,ho⟩:∃ r,F k=r:=⟨_,rfl⟩
 rw [ho] at HFk
 unfold patX at HPE
 simp only [Cn.cells] at HPE
 refine Qe ?_
 refine Qdb ?_
 refine QcN ?_
 refine Qcb ?_;intro b7
 refine Qa3 ?_
 refine Qcc ?_
 refine Qa ?_
 refine Qe ?_
 refine QcK ?_
 refine Qfb ?_
 refine Zb 20 Y Y Y (Ze (xs:=[.tmp 18,.tmp 19,.const (.string ⟨#[120]⟩)]) Y Y (HPE) by3 ?_)
 refine QaA ?_
 refine Zb 23 Y Y Y (op_callvpp (xs:=[.tmp 22]) Y Y Y (HFk) by3 ?_)
 refine Zb 24 Y Y Y (Zk (ns:=[0,1]) (xs:=[.tmp 20,.tmp 23]) (cs':=[_,_,_,_,_,_,_,_,_,_,_,_,_,_,_,_]) Y tz_65 Y tfl_65 Y Y Y Y (Zb 25 Y Y Y (Zd (xs:=[.tmp 24]) el_56 Y Y Y Y Y Y (Xm Y) (Zb 26 Y Y Y (Zr (i:=2) el_56 Y Y Y Y (.seq _ _) by8 ?_)))))
 intro u26
 refine Qce ?_
 refine Qax ?_
 exact ⟨(k+1,u26),by show k+1≤dcs.length;omega,by show dcs.length - (k+1)<dcs.length - k;omega,Xj Y (Xg _) (Xj Y (Xl (by rw [hsn,alF_snoc,Al.cellss_snoc,htl,show 0+k=k by omega,ho];rfl)) by6),(Xd _ (Xf Y))⟩
abbrev kcEq:ByteArray:=⟨#[69,113]⟩
abbrev kcOrd:ByteArray:=⟨#[79,114,100]⟩
abbrev kcShow:ByteArray:=⟨#[83,104,111,119]⟩
def eqB (a:Int) (cs:List Cn):Ex:=lamE a [kX,kY] (eachX a (fun i=>match cs[i]? with|some c=>eqXX a c.s c.ts.length cs.length|none=>namE 3 kX a) cs)
def ordB (a:Int) (cs:List Cn):Ex:=lamE a [kX,kY] (eachX a (fun i=>cmpXX a i cs) cs)
def showB (a:Int) (cs:List Cn):Ex:=lamE a [kX] (eachX a (fun i=>match cs[i]? with|some c=>showXX a c.s c.ts.length|none=>namE 3 kX a) cs)
theorem eqB_law (a:Int) {cs:List Cn} (h:cs≠[]):eqX num a cs=eqB a cs:=by
 unfold eqX eqB
 rw [Dx.ex]
 rw [eachX_law a (fun _ c=>eqD num c.s c.ts.length cs.length) (fun i=>match cs[i]? with|some c=>eqXX a c.s c.ts.length cs.length|none=>namE 3 kX a) h (fun k c hk=>by
  rw [hk];exact eqXX_law a c.s c.ts.length cs.length)]
 rfl
theorem ordB_law (a:Int) {cs:List Cn} (h:cs≠[]):ordX num a cs=ordB a cs:=by
 unfold ordX ordB
 rw [Dx.ex]
 rw [eachX_law a (fun i _=>cmpD num i cs) (fun i=>cmpXX a i cs) h (fun k c hk=>cmpXX_law a k h)]
 rfl
theorem showB_law (a:Int) {cs:List Cn} (h:cs≠[]):showX num a cs=showB a cs:=by
 unfold showX showB
 rw [Dx.ex]
 rw [eachX_law a (fun _ c=>showD num c) (fun i=>match cs[i]? with|some c=>showXX a c.s c.ts.length|none=>namE 3 kX a) h (fun k c hk=>by
  rw [hk];exact showXX_law a c)]
 rfl
def bindX (a:Int) (cs:List Cn) (cl:ByteArray):Option (ByteArray × Ex):=if cl=kcEq then some (kEqN,eqB a cs) else if cl=kcOrd then some (kCmp,ordB a cs) else if cl=kcShow then some (kShw,showB a cs) else none
def parT (s:ByteArray):Ty:=.mk 1 s 0 []
def instX (d:Da) (cl nm:ByteArray) (e:Ex):In:=.mk cl (.mk 3 d.s 0 (d.ps.map parT)) (d.ps.map fun s=>.mk cl (parT s)) [.mk nm e d.p] d.p
def in0:In:=.mk kE ty0 [] [] 0
def instR (d:Da) (cl:ByteArray):In × Int:=match bindX d.p d.cs cl with|some (nm,e)=>(instX d cl nm e,0)|none=>(in0,121)
structure DaS (d:Da):Prop where
 len:d.cs.length≤250
 ps:d.ps.length≤1000000
 cn:∀ c∈d.cs,c.ts.length≤1000000∧c.s.size≤1000000
theorem Ty.cellss_app1 (l:List Ty) (s:ByteArray):Less (Ty.cellss l++[[.val (.int .i64 1),.val (.string s),.val (.int .i64 0),.val (.slice none 0 0)]]) (Ty.cellss (l++[parT s])):=by
 rw [show Ty.cellss (l++[parT s])=Ty.cellss l++[[.val (.int .i64 1),.val (.string s),.val (.int .i64 0),.seq 4 []]] by rw [Ty.cellss_map,Ty.cellss_map,List.map_append];rfl]
 exact Less.snoc (Xi (Xg _) (Xi (Xg _) (Xi (Xg _) (Xi (Le.nil _) (Xh _))))) Y _
theorem Inst_c (d:Da) (hd:DaS d) (cl:ByteArray):PCall Tryz.prog 11 [.agg d.cells,.val (.string cl)] (.tup [.agg (instR d cl).1.cells,.val (.int .i64 (instR d cl).2)]):=by
 obtain ⟨hd1,hd2,hd3⟩:=hd
 have hcn:∀ c∈d.cs,c.ts.length≤1000000:=fun c h=>(hd3 c h).1
 have HE1:=m_each_c d d.p 33 (fun i=>match d.cs[i]? with|some c=>eqXX d.p c.s c.ts.length d.cs.length|none=>namE 3 kX d.p) (fun i hi=>by
  obtain ⟨c,hc⟩:=Zo (l:=d.cs) hi
  simp only [hc]
  exact m_eq_c d d.p i c hc (hcn c (Xq hc))) hcn by18
 have HE2:=m_each_c d d.p 34 (fun i=>cmpXX d.p i d.cs) (fun i hi=>m_compare_c d d.p i hcn by18) hcn by18
 have HE3:=m_each_c d d.p 35 (fun i=>match d.cs[i]? with|some c=>showXX d.p c.s c.ts.length|none=>namE 3 kX d.p) (fun i hi=>by
  obtain ⟨c,hc⟩:=Zo (l:=d.cs) hi
  simp only [hc]
  exact m_show_c d d.p i c hc (hcn c (Xq hc)) (hd3 c (Xq hc)).2) hcn by18
 have HL1:=m_lambda_c d d.p (eachX d.p (fun i=>match d.cs[i]? with|some c=>eqXX d.p c.s c.ts.length d.cs.length|none=>namE 3 kX d.p) d.cs) [kX,kY]
 have HL2:=m_lambda_c d d.p (eachX d.p (fun i=>cmpXX d.p i d.cs) d.cs) [kX,kY]
 have HL3:=m_lambda_c d d.p (eachX d.p (fun i=>match d.cs[i]? with|some c=>showXX d.p c.s c.ts.length|none=>namE 3 kX d.p) d.cs) [kX]
 obtain ⟨r,hr⟩:∃ r,instR d cl=r:=⟨_,rfl⟩
 rw [hr]
 unfold instR at hr
 obtain ⟨ds,dps,dcs,ddv,dp⟩:=d
 replace hd1:dcs.length≤250:=hd1
 replace hd2:dps.length≤1000000:=hd2
 obtain ⟨bx,hbx⟩:∃ b,bindX dp dcs cl=b:=⟨_,rfl⟩
 replace hr:(match bindX dp dcs cl with|some (nm,e)=>(instX (Da.mk ds dps dcs ddv dp) cl nm e,(0:Int))|none=>(in0,121))=r:=hr
 rw [hbx] at hr
 unfold bindX at hbx
 have eB1:lamE dp [kX,kY] (eachX dp (fun i=>match dcs[i]? with|some c=>eqXX dp c.s c.ts.length dcs.length|none=>namE 3 kX dp) dcs)=eqB dp dcs:=rfl
 have eB2:lamE dp [kX,kY] (eachX dp (fun i=>cmpXX dp i dcs) dcs)=ordB dp dcs:=rfl
 have eB3:lamE dp [kX] (eachX dp (fun i=>match dcs[i]? with|some c=>showXX dp c.s c.ts.length|none=>namE 3 kX dp) dcs)=showB dp dcs:=rfl
 simp only [Da.p,Da.cs] at HE1 HE2 HE3 HL1 HL2 HL3
 rw [eB1] at HL1
 rw [eB2] at HL2
 rw [eB3] at HL3
 clear eB1 eB2 eB3 hd3 hcn
 generalize eachX dp (fun i=>match dcs[i]? with|some c=>eqXX dp c.s c.ts.length dcs.length|none=>namE 3 kX dp) dcs=x1 at HE1 HL1
 generalize eachX dp (fun i=>cmpXX dp i dcs) dcs=x2 at HE2 HL2
 generalize eachX dp (fun i=>match dcs[i]? with|some c=>showXX dp c.s c.ts.length|none=>namE 3 kX dp) dcs=x3 at HE3 HL3
 generalize eqB dp dcs=e1 at HL1 hbx
 generalize ordB dp dcs=e2 at HL2 hbx
 generalize showB dp dcs=e3 at HL3 hbx
 obtain ⟨x1k,x1s,x1n,⟨x1tk,x1ts,x1tn,x1tl⟩,x1ks,x1al,x1bs,x1p⟩:=x1
 obtain ⟨x2k,x2s,x2n,⟨x2tk,x2ts,x2tn,x2tl⟩,x2ks,x2al,x2bs,x2p⟩:=x2
 obtain ⟨x3k,x3s,x3n,⟨x3tk,x3ts,x3tn,x3tl⟩,x3ks,x3al,x3bs,x3p⟩:=x3
 obtain ⟨e1k,e1s,e1n,⟨e1tk,e1ts,e1tn,e1tl⟩,e1ks,e1al,e1bs,e1p⟩:=e1
 obtain ⟨e2k,e2s,e2n,⟨e2tk,e2ts,e2tn,e2tl⟩,e2ks,e2al,e2bs,e2p⟩:=e2
 obtain ⟨e3k,e3s,e3n,⟨e3tk,e3ts,e3tn,e3tl⟩,e3ks,e3al,e3bs,e3p⟩:=e3
 have hlc:=Cn.cellss_len dcs
 have hlp:=Yz dps
 unfold mkC at *
 simp only [Da.cells,List.cons_append,List.nil_append] at *
 refine Zc Tryz.func11 Y (by kernel_rfl) Y (Xm Y) ?_
 refine Qn ?_
 refine QaU ?_
 refine QcX ?_;intro b4
 refine Qf ?_
 refine Qo ?_
 refine QbK ?_
 refine Qy ?_
 refine Zb 15 Y Y Y (Zk (ns:=[0,1]) (xs:=[.tmp 12,.tmp 14]) (cs':=[_,_,_,_,_,_]) Y tz_92 Y tfl_92 Y Y Y Y (Zb 6 Y Y Y (Yl (cs':=[_,_,_,_,_,_]) Y tz_92 Y Y ?_)));intro b6
 refine Zp Y Y (Zi (cs':=[_,_,_,_,_,_]) (i:=0) Y ts_92 Y Y Y Y Y (Xm Y) Y ?_)
 refine QA ?_
 refine Qy ?_
 refine Zb 18 Y Y Y (Zk (ns:=[2]) (xs:=[.tmp 17]) (cs':=[_,_,_,_,_,_,_,_,_,_,_,_,_]) Y tz_60 Y tfl_60 Y Y Y Y ?_)
 refine Qe5 ?_;intro b7
 refine Zp Y Y (Zi (cs':=[_,_,_,_,_,_,_,_,_,_,_,_,_]) (i:=0) Y ts_60 Y Y Y Y Y (Xm Y) Y ?_)
 refine Qv ?_
 refine Q4 ?_
 refine Qbl ?_;intro n21
 refine Q0 ?_;intro c22 h22
 refine Qb ?_
 obtain ⟨rfl,g22⟩|⟨rfl,g22⟩:=Za h22
 ·skip
  refine QaL ?_
  refine QaW ?_
  refine Qad ?_
  refine QaW ?_
  refine QZ ?_
  refine QcA ?_
  refine QaB ?_
  refine Qa ?_
  apply c_joink (rg [(0,1),(3,1),(5,2),(9,1),(12,59)]) (σ:=ByteArray × Ex) (fun zz=>match zz with|(nm,e)=>[]) (fun zz=>match zz with|(nm,e)=>[.loc b7 (Bi.mk nm e dp).cells,.loc b4 zIn]) (fun zz=>match zz with|(nm,e)=>bx=some (nm,e))
  ·repeat' (first|exact Xp|apply Xn rfl|apply Xo rfl)
  ·skip
   refine Qam ?_
   refine Qo ?_
   refine Qas ?_;intro c39 h39
   refine Qf ?_
   obtain ⟨rfl,g39⟩|⟨rfl,g39⟩:=Za h39
   ·refine QH ?_
    refine Qo ?_
    refine Qas ?_;intro c50 h50
    refine Qf ?_
    obtain ⟨rfl,g50⟩|⟨rfl,g50⟩:=Za h50
    ·refine QH ?_
     refine Qo ?_
     refine Qas ?_;intro c61 h61
     refine Qf ?_
     obtain ⟨rfl,g61⟩|⟨rfl,g61⟩:=Za h61
     ·refine QH ?_
      refine Qo ?_
      refine Qfp ?_
      refine Zp Y Y (Zi (cs':=[_,_,_,_,_,_,_,_]) (i:=2) Y ts_49 Y Y Y Y Y (Xm Y) Y ?_)
      refine Qf ?_
      rw [if_neg g39,if_neg g50,if_neg g61] at hbx
      subst hbx
      replace hr:(in0,(121:Int))=r:=hr
      subst hr
      refine c_retj ?_
      exact out_ct (i:=2) Y Y Y Y ta_49 Y by2 (Xb _) ⟨Y,Y⟩
     refine Qh ?_
     refine Qek ?_
     refine Qcd ?_
     refine Qcd ?_
     refine Qcd ?_
     refine Zh 65 (none) (i:=3) Y Y Y Y Y (op_makeFunc (fs:=[.tmp 64]) (cs:=[]) Y Y Y ⟨Y,Y⟩) ?_
     refine Zh 66 (none) (i:=4) Y Y Y Y Y (Ze (xs:=[.tmp 63,.tmp 65]) Y Y (HE3) by3 ⟨Y,Y⟩) ?_
     refine Zh 67 (none) (i:=5) Y Y Y Y Y (Zd (xs:=[.const (.string ⟨#[120]⟩)]) el_31 Y Y Y Y Y Y (Xm Y) ⟨Y,Y⟩) ?_
     refine Zh 68 (none) (i:=6) Y Y Y Y Y (Ze (xs:=[.tmp 62,.tmp 66,.tmp 67]) Y Y (HL3) by3 ⟨Y,Y⟩) ?_
     refine QB ?_
     refine Qel ?_
     refine QB ?_
     refine Qem ?_
     show AGo _ _ _ _ _ _ _
     refine Qbn ?_
     first
     |(rw [if_pos g39] at hbx;exact ⟨(kEqN,.mk e1k e1s e1n ⟨e1tk,e1ts,e1tn,e1tl⟩ e1ks e1al e1bs e1p),hbx.symm,by6,by1⟩)
     |(rw [if_neg g39,if_pos g50] at hbx;exact ⟨(kCmp,.mk e2k e2s e2n ⟨e2tk,e2ts,e2tn,e2tl⟩ e2ks e2al e2bs e2p),hbx.symm,by6,by1⟩)
     |(rw [if_neg g39,if_neg g50,if_pos g61] at hbx;exact ⟨(kShw,.mk e3k e3s e3n ⟨e3tk,e3ts,e3tn,e3tl⟩ e3ks e3al e3bs e3p),hbx.symm,by6,by1⟩)
    refine Qh ?_
    refine Qek ?_
    refine Qcd ?_
    refine Qcd ?_
    refine Qcd ?_
    refine Zh 54 (none) (i:=3) Y Y Y Y Y (op_makeFunc (fs:=[.tmp 53]) (cs:=[]) Y Y Y ⟨Y,Y⟩) ?_
    refine Zh 55 (none) (i:=4) Y Y Y Y Y (Ze (xs:=[.tmp 52,.tmp 54]) Y Y (HE2) by3 ⟨Y,Y⟩) ?_
    refine Qfq ?_
    refine Zh 57 (none) (i:=6) Y Y Y Y Y (Ze (xs:=[.tmp 51,.tmp 55,.tmp 56]) Y Y (HL2) by3 ⟨Y,Y⟩) ?_
    refine QB ?_
    refine Qel ?_
    refine QB ?_
    refine Qem ?_
    show AGo _ _ _ _ _ _ _
    refine Qbn ?_
    first
    |(rw [if_pos g39] at hbx;exact ⟨(kEqN,.mk e1k e1s e1n ⟨e1tk,e1ts,e1tn,e1tl⟩ e1ks e1al e1bs e1p),hbx.symm,by6,by1⟩)
    |(rw [if_neg g39,if_pos g50] at hbx;exact ⟨(kCmp,.mk e2k e2s e2n ⟨e2tk,e2ts,e2tn,e2tl⟩ e2ks e2al e2bs e2p),hbx.symm,by6,by1⟩)
    |(rw [if_neg g39,if_neg g50,if_pos g61] at hbx;exact ⟨(kShw,.mk e3k e3s e3n ⟨e3tk,e3ts,e3tn,e3tl⟩ e3ks e3al e3bs e3p),hbx.symm,by6,by1⟩)
   refine Qh ?_
   refine Qek ?_
   refine Qcd ?_
   refine Qcd ?_
   refine Qcd ?_
   refine Zh 43 (none) (i:=3) Y Y Y Y Y (op_makeFunc (fs:=[.tmp 42]) (cs:=[]) Y Y Y ⟨Y,Y⟩) ?_
   refine Zh 44 (none) (i:=4) Y Y Y Y Y (Ze (xs:=[.tmp 41,.tmp 43]) Y Y (HE1) by3 ⟨Y,Y⟩) ?_
   refine Qfq ?_
   refine Zh 46 (none) (i:=6) Y Y Y Y Y (Ze (xs:=[.tmp 40,.tmp 44,.tmp 45]) Y Y (HL1) by3 ⟨Y,Y⟩) ?_
   refine QB ?_
   refine Qel ?_
   refine QB ?_
   refine Qem ?_
   show AGo _ _ _ _ _ _ _
   refine Qbn ?_
   first
   |(rw [if_pos g39] at hbx;exact ⟨(kEqN,.mk e1k e1s e1n ⟨e1tk,e1ts,e1tn,e1tl⟩ e1ks e1al e1bs e1p),hbx.symm,by6,by1⟩)
   |(rw [if_neg g39,if_pos g50] at hbx;exact ⟨(kCmp,.mk e2k e2s e2n ⟨e2tk,e2ts,e2tn,e2tl⟩ e2ks e2al e2bs e2p),hbx.symm,by6,by1⟩)
   |(rw [if_neg g39,if_neg g50,if_pos g61] at hbx;exact ⟨(kShw,.mk e3k e3s e3n ⟨e3tk,e3ts,e3tn,e3tl⟩ e3ks e3al e3bs e3p),hbx.symm,by6,by1⟩)
  rintro ⟨nm,⟨ek,es,en,⟨etk,ets,etn,etl⟩,eks,eal,ebs,ep⟩⟩ hI
  try dsimp only [List.cons_append,List.nil_append] at hI ⊢
  rw [hI] at hr
  replace hr:(instX (Da.mk ds dps dcs ddv dp) cl nm (.mk ek es en ⟨etk,ets,etn,etl⟩ eks eal ebs ep),(0:Int))=r:=hr
  refine Qc ?_
  refine QJ ?_
  refine Qy ?_
  refine Zb 74 Y Y Y (Zk (ns:=[0,1]) (xs:=[.const (.int .i64 3),.tmp 73]) (cs':=[_,_,_,_]) Y tz_46 Y tfl_46 Y Y Y Y (Zb 75 Y Y Y (Zv (cs':=[_,_,_,_,_,_,_,_,_,_,_,_,_]) (i:=0) Y ta_60 Y Y Y Y (Zb 76 Y Y Y (Zd (xs:=[.tmp 75]) el_26 Y Y Y Y Y Y (Xm Y) ?_)))))
  refine Qy ?_
  refine Zb 79 Y Y Y (Zk (ns:=[0,1,3,4]) (xs:=[.tmp 71,.tmp 74,.tmp 76,.tmp 78]) (cs':=[_,_,_,_,_,_,_,_]) Y tz_49 Y tfl_49 Y Y Y Y ?_)
  refine QcX ?_;intro b8
  refine Qdq ?_
  refine Qv ?_
  refine Q4 ?_
  refine Qa4 ?_;intro n82
  refine QaN ?_
  refine Yb 46 4 (Yb 97 5 ?_)
  apply Ye (rg [(0,1),(2,2),(6,2),(9,40),(50,31),(83,23)]) (σ:=Nat × Value × Value) (fun zz=>match zz with|(i,u,v)=>[(83,.val (.int .i64 i))]) (fun zz=>match zz with|(i,u,v)=>[.loc b8 [.val (.string cl),.val (.int .i64 3),.val (.string ds),.val (.int .i64 0),.own u 4 (Ty.cellss ((dps.take i).map parT)),.own v 5 (Pr.cellss ((dps.take i).map fun s=>Pr.mk cl (parT s))),.seq 13 (Bi.cellss [.mk nm (.mk ek es en ⟨etk,ets,etn,etl⟩ eks eal ebs ep) dp]),.val (.int .i64 dp)],.loc b4 zIn,.own 46 4 u,.own 97 5 v]) (fun zz=>match zz with|(i,u,v)=>i≤dps.length) (fun zz=>match zz with|(i,u,v)=>dps.length - i) ((0,.slice none 0 0,.slice none 0 0))
  ·repeat' (first|exact Xp|apply Xn rfl|apply Xo rfl)
  ·exact Nat.zero_le _
  ·exact by6
  ·exact (Xe _ (Xi (Xg _) (Xi (Xg _) (Xi (Xg _) (Xi (Xg _) (Xi (Le.nilOwn 4) (Xi (Le.nilOwn 5) (Xi (Xg _) (Xh _)))))))) (Xd _ (Xf Y)))
  rintro ⟨i,u,v⟩ hI
  try dsimp only [List.cons_append,List.nil_append] at hI ⊢
  have hi:=hI
  have ht1:(Ty.cellss ((dps.take i).map parT)).length≤1000000:=by rw [Ty.cellss_len,List.length_map,List.length_take];omega
  have ht2:(Pr.cellss ((dps.take i).map fun s=>Pr.mk cl (parT s))).length≤1000000:=by rw [Pr.cellss_len,List.length_map,List.length_take];omega
  refine QaO ?_;intro c84 h84
  refine Qv ?_
  obtain ⟨rfl,g84⟩|⟨rfl,g84⟩:=Za h84
  ·refine QE ?_
   rw [List.take_of_length_le by18]
   subst hr
   refine Qi ?_
   refine Qfr ?_
   refine Qei ?_
   refine Qs ?_
   exact out_ct (i:=1) Y Y Y Y ta_49 Y by2 (Xb _) ⟨Y,Y⟩
  refine Qx ?_
  obtain ⟨q,hxq⟩:=Zo (l:=dps) (i:=i) by9
  have hcq:=strs_get hxq
  have hmq:=Xq hxq
  refine Qi ?_
  refine QdS ?_
  refine QbG ?_
  refine QaR ?_
  refine Zb 88 Y Y Y (Zk (ns:=[0,1]) (xs:=[.const (.int .i64 1),.tmp 87]) (cs':=[_,_,_,_]) Y tz_46 Y tfl_46 Y Y Y Y ?_)
  refine QcU ?_;intro b11
  refine QcV ?_
  refine Qa ?_
  refine Qat ?_
  refine Qu ?_
  refine Qbj ?_
  refine QcW ?_
  refine Zb 93 Y Y Y (Zd (xs:=[.tmp 92]) el_44 Y Y Y Y Y Y (Xm Y) ?_)
  refine Qfs ?_
  intro u94
  refine Qu ?_
  refine Qu ?_
  refine Zp Y Y (Zi (cs':=[_,_,_,_,_,_,_,_]) (i:=1) Y ts_44 Y Y Y Y Y (Xm Y) Y ?_)
  refine Qcz ?_
  refine Qb ?_
  refine QcW ?_
  refine Zb 101 Y Y Y (Zk (ns:=[0,1]) (xs:=[.tmp 99,.tmp 100]) (cs':=[_,_,_,_,_]) Y tz_97 Y tfl_97 Y Y Y Y (Zb 102 Y Y Y (Zd (xs:=[.tmp 101]) el_47 Y Y Y Y Y Y (Xm Y) ?_)))
  refine Qft ?_
  intro u103
  refine Qu ?_
  refine Zp Y Y (Zi (cs':=[_,_,_,_,_,_,_,_]) (i:=1) Y ts_47 Y Y Y Y Y (Xm Y) Y ?_)
  refine Qac ?_
  refine Qax ?_
  have hsn:=Yg hxq
  exact ⟨(i+1,u94,u103),by show i+1≤dps.length;omega,by show dps.length - (i+1)<dps.length - i;omega,by6,Xd _ (Xe _ (Xi (Xg _) (Xi (Xg _) (Xi (Xg _) (Xi (Xg _) (Xi (by rw [hsn,List.map_append];exact Le.own_less (Ty.cellss_app1 _ _)) (Xi (by rw [hsn,List.map_append];exact preds_snoc _ _ _) (Xi (Xg _) (Xh _)))))))) (Xf Y))⟩
 exact absurd g22 by18
theorem strOfNums_app (a b:List Int):strOfNums a++strOfNums b=strOfNums (a++b):=by
 apply ByteArray.ext
 simp [strOfNums,ByteArray.data_append]
theorem Le.int_eq {k:IntKind} {a b:Int} (h:a=b):Le (.val (.int k a)) (.val (.int k b)):=by rw [h];exact Xg _
theorem Digits_c (U:Nat) (hU:U<10 ^ 20) (hU2:U≤18446744073709551615):PCall Tryz.prog 108 [.val (.int .u64 U)] (.val (.string (strOfNums (digs 20 U [])))):=by
 refine Zc Tryz.func108 Y (by kernel_rfl) Y (Xm Y) ?_
 refine Qa7 ?_
 refine QK ?_
 refine Qa6 ?_
 refine c_loop (σ:=Nat × Nat × List Int) (fun zz=>match zz with|(u,f,acc)=>[(0,.val (.int .u64 u)),(3,.val (.string (strOfNums acc)))]) (fun zz=>match zz with|(u,f,acc)=>[]) (fun zz=>match zz with|(u,f,acc)=>u<10 ^ (f+1)∧f+1+acc.length=20∧u≤18446744073709551615∧digs (f+1) u acc=digs 20 U []) (fun zz=>match zz with|(u,f,acc)=>u) ((U,19,[])) ?_ ?_ ?_ ?_
 ·exact ⟨hU,Y,hU2,Y⟩
 ·exact by6
 ·exact by5
 rintro ⟨u,f,acc⟩ hI
 try dsimp only [List.cons_append,List.nil_append] at hI ⊢
 obtain ⟨h1,h2,h3,h4⟩:=hI
 have hsz:=strOfNums_size acc
 have hs1:∀ x:Int,(strOfNums [x]).size=1:=fun x=>strOfNums_size [x]
 refine Qw ?_
 refine Q0 ?_;intro c5 h5
 refine Qa ?_
 obtain ⟨rfl,g5⟩|⟨rfl,g5⟩:=Za h5
 ·refine QE ?_
  have hs2:=hs1 (48+(u:Int))
  rw [digs,if_pos by18] at h4
  refine Qe ?_
  refine Zb 17 Y Y Y (op_add Y Y Y (IntWalk.u64_in _ by18) ?_)
  refine Qfu ?_
  refine Zb 19 Y Y Y (Zd (xs:=[.tmp 18]) el_151 Y Y Y Y Y Y (Xm Y) (Zb 20 Y Y Y (op_bytestr (xs:=[48+(u:Int)]) Y tu_151 tu_5 tu_9 Y (.seq 1 _) by19 ?_)))
  refine Qb ?_
  refine Qc8 ?_
  refine Qs ?_
  refine Zg Y Y (Xg _) by5 ⟨?_,Y⟩
  rw [← h4,strOfNums_app,show (u:Int) % 10=u from by omega]
  rfl
 refine Qab ?_
 refine QG ?_
 have hs2:=hs1 (48+(u:Int) % 10)
 refine Qe ?_
 refine Zb 7 Y Y Y (op_rem Y Y Y by18 (Int.tmod_eq_emod_of_nonneg by18) ?_)
 refine Zb 8 Y Y Y (op_add Y Y Y (IntWalk.u64_in _ by18) ?_)
 refine Qfu ?_
 refine Zb 10 Y Y Y (Zd (xs:=[.tmp 9]) el_151 Y Y Y Y Y Y (Xm Y) (Zb 11 Y Y Y (op_bytestr (xs:=[48+(u:Int) % 10]) Y tu_151 tu_5 tu_9 Y (.seq 1 _) by19 ?_)))
 refine Qb ?_
 refine Qc8 ?_
 refine Qf ?_
 refine Qe ?_
 refine Zb 15 Y Y Y (op_quo Y Y Y by18 (IntWalk.u64_quo _ _ by18) ?_)
 refine QaF ?_
 obtain ⟨f,rfl⟩:∃ f',f=f'+1:=by
  cases f with
  | zero=>simp at h1;omega
  | succ f=>exact ⟨f,rfl⟩
 rw [digs,if_neg by18] at h4
 refine ⟨(u / 10,f,(48+(u:Int) % 10)::acc),⟨(show u / 10<10 ^ (f+1) from Nat.div_lt_of_lt_mul (by rw [Nat.pow_succ,Nat.mul_comm] at h1;exact h1)),by simp at h2 ⊢;omega,by simp;omega,h4⟩,by simp;omega,?_,by5⟩
 refine Xj Y (Le.int_eq by19) (Xj Y ?_ (SLe.nil _))
 rw [strOfNums_app]
 exact Xg _
theorem RWrapA_c (n:Int):PCall Tryz.prog 107 [.val (.int .i64 n)] (.val (.int .i64 (W63 n))) :=
 PCall.of_calls (vs:=[.int .i64 n]) (enters_of Tryz.func107 (by kernel_rfl) rfl) (fun w=>(RWrap_c n w).mono (by rintro e w' ⟨rfl,rfl⟩;exact ⟨rfl,Below.refl _ _⟩))
theorem sizeA_c (n:Int) (h1 : -9223372036854775808≤n) (h2:n≤9223372036854775807):PCall Tryz.prog 109 [.val (.int .i64 n)] (.val (.int .u64 (absI n))) :=
 PCall.of_calls (vs:=[.int .i64 n]) (enters_of Tryz.func109 (by kernel_rfl) rfl) (fun w=>(size_c n w h1 h2).mono (by rintro e w' ⟨rfl,rfl⟩;exact ⟨rfl,Below.refl _ _⟩))
theorem rText_c (n:Int):PCall Tryz.prog 100 [.val (.int .i64 n)] (.val (.string (txt (W63 n)))):=by
 have hb:=W63_bd n
 have ha:=absI_W63 n
 have HW:=RWrapA_c n
 generalize W63 n=z at *
 obtain ⟨U,hU⟩:∃ U:Nat,absI z=U:=⟨(absI z).toNat,by have:=absI_lo z;omega⟩
 have HS:=sizeA_c z by18 by18
 rw [hU] at HS ha
 have HD:=Digits_c U by18 by18
 have hl:=digs_le 20 U []
 simp only [List.length_nil] at hl
 have hsz:=strOfNums_size (digs 20 U [])
 have hq:(if z<0 then (-z).toNat else z.toNat)=U:=by unfold absI at hU;split <;> rename_i h <;> simp [h] at hU <;> omega
 have hT:txt z=if z<0 then strOfNums [45]++strOfNums (digs 20 U []) else strOfNums (digs 20 U []):=by
  unfold txt
  split <;> rename_i h
  ·rw [if_pos h] at hq;rw [hq,strOfNums_app];rfl
  rw [if_neg h] at hq;rw [hq]
 rw [hT]
 generalize strOfNums (digs 20 U [])=ds at *
 clear hT hq
 have h45:(⟨#[45]⟩:ByteArray).size=1:=rfl
 refine Zc Tryz.func100 Y (by kernel_rfl) Y (Xm Y) ?_
 refine Qcp ?_
 refine Zb 5 Y Y Y (Ze (xs:=[.tmp 4]) Y Y (HW) by3 ?_)
 refine Qcs ?_
 refine Qk ?_;intro c7 h7
 refine Qa ?_
 obtain ⟨rfl,g7⟩|⟨rfl,g7⟩:=Za h7
 ·refine QY ?_
  refine Zb 13 Y Y Y (Ze (xs:=[.tmp 12]) Y Y (HS) by3 ?_)
  refine Zb 14 Y Y Y (Ze (xs:=[.tmp 13]) Y Y (HD) by3 ?_)
  refine Qs ?_
  exact Zg Y Y (Xg _) by5 ⟨by rw [if_neg g7],Y⟩
 refine QaP ?_
 refine Zb 9 Y Y Y (Ze (xs:=[.tmp 8]) Y Y (HS) by3 ?_)
 refine Zb 10 Y Y Y (Ze (xs:=[.tmp 9]) Y Y (HD) by3 ?_)
 refine Qc8 ?_
 refine Qs ?_
 exact Zg Y Y (Xg _) by5 ⟨by rw [if_pos g7];rfl,Y⟩
structure NmT (nm:Nat→ByteArray):Prop where
 tx:∀ i:Nat,PCall Tryz.prog 100 [.val (.int .i64 ((i:Int)+1))] (.val (.string (nm i)))
 sz:∀ i,i<8→(nm i).size=1
theorem num_t:NmT num:=⟨fun i=>rText_c ((i:Int)+1),num_size⟩
theorem Le.str {a b:ByteArray} (h:a=b):Le (.val (.string a)) (.val (.string b)):=by subst h;exact Xg _
theorem args_c {nm:Nat→ByteArray} (hm:NmT nm) (c:Cn) (of:ByteArray) (ho:of.size≤1) (hn:c.ts.length≤8):PCall Tryz.prog 79 [.agg c.cells,.val (.string of)] (.val (.string (argsT nm of c.ts.length))):=by
 have HT:=hm.tx
 have hsz:=hm.sz
 have hAS:=args_size hm.sz ho
 obtain ⟨cs,cts,cp⟩:=c
 replace hn:cts.length≤8:=hn
 show PCall Tryz.prog _ _ (.val (.string (argsT nm of cts.length)))
 have hl:=Ty.cellss_len cts
 have z1:(⟨#[32,95]⟩:ByteArray).size=2:=rfl
 have z2:(⟨#[32]⟩:ByteArray).size=1:=rfl
 refine Zc Tryz.func79 Y (by kernel_rfl) Y (Xm Y) ?_
 refine Qn ?_
 refine QcM ?_
 refine Qf ?_
 refine Qcm ?_
 refine Q3 ?_
 apply Zy (rg [(0,1),(3,1),(5,21)]) (σ:=Nat) (fun zz=>match zz with|i=>[(6,.val (.int .i64 i)),(5,.val (.string (argsT nm of i)))]) (fun zz=>match zz with|i=>i≤cts.length) (fun zz=>match zz with|i=>cts.length - i) (0)
 ·repeat' (first|exact Xp|apply Xn rfl|apply Xo rfl)
 ·exact Nat.zero_le _
 ·exact Xj Y (Xg _) (Xj Y (Xg _) (SLe.nil _))
 rintro i hI
 try dsimp only [List.cons_append,List.nil_append] at hI ⊢
 have hi:=hI
 refine QO ?_
 refine QW ?_;intro n10
 refine Qk ?_;intro c11 h11
 refine Qa ?_
 obtain ⟨rfl,g11⟩|⟨rfl,g11⟩:=Za h11
 ·refine QE ?_
  obtain rfl:i=cts.length:=by omega
  refine Qe ?_
  refine Qs ?_
  exact Zg Y Y (Xg _) (Xb _) ⟨Y,Y⟩
 refine Qx ?_
 have hz1:=hAS i by18
 have hz2:=hsz i by18
 have HTi:=HT i
 have hst:argsT nm of (i+1)=if of=kE then argsT nm of i++⟨#[32,95]⟩ else argsT nm of i++⟨#[32]⟩++of++nm i:=by rw [argsT]
 refine Qe ?_
 refine Qas ?_;intro c15 h15
 refine Qa ?_
 obtain ⟨rfl,g15⟩|⟨rfl,g15⟩:=Za h15
 ·refine QH ?_
  refine Qe ?_
  refine QD ?_
  refine Qb ?_
  refine QD ?_
  refine Qb ?_
  refine QaI ?_
  refine Zb 24 Y Y Y (Ze (xs:=[.tmp 23]) Y Y (HTi) by3 ?_)
  refine QD ?_
  refine Qaz ?_
  first
  |(rw [if_pos g15] at hst;exact ⟨i+1,by show i+1≤cts.length;omega,by show cts.length - (i+1)<cts.length - i;omega,Xj rfl (Xg _) (Xj rfl (Le.str hst.symm) by6),by5⟩)
  |(rw [if_neg g15] at hst;exact ⟨i+1,by show i+1≤cts.length;omega,by show cts.length - (i+1)<cts.length - i;omega,Xj rfl (Xg _) (Xj rfl (Le.str hst.symm) by6),by5⟩)
 refine Qbb ?_
 refine QD ?_
 refine Qaz ?_
 first
 |(rw [if_pos g15] at hst;exact ⟨i+1,by show i+1≤cts.length;omega,by show cts.length - (i+1)<cts.length - i;omega,Xj rfl (Xg _) (Xj rfl (Le.str hst.symm) by6),by5⟩)
 |(rw [if_neg g15] at hst;exact ⟨i+1,by show i+1≤cts.length;omega,by show cts.length - (i+1)<cts.length - i;omega,Xj rfl (Xg _) (Xj rfl (Le.str hst.symm) by6),by5⟩)
theorem two_c {nm:Nat→ByteArray} (hm:NmT nm) (f:ByteArray) (hf:f.size≤10) (i:Nat) (hi:i<8):PCall Tryz.prog 101 [.val (.string f),.val (.int .i64 i)] (.val (.string (twoT nm f i))):=by
 have HT:=hm.tx i
 have hsz:=hm.sz i hi
 unfold twoT
 have z1:(⟨#[32,120]⟩:ByteArray).size=2:=rfl
 have z2:(⟨#[32,121]⟩:ByteArray).size=2:=rfl
 refine Zc Tryz.func101 Y (by kernel_rfl) Y (Xm Y) ?_
 refine Qcp ?_
 refine QaI ?_
 refine Zb 8 Y Y Y (Ze (xs:=[.tmp 7]) Y Y (HT) by3 ?_)
 refine QaR ?_
 refine QD ?_
 refine Qb ?_
 refine QD ?_
 refine QD ?_
 refine Qb ?_
 refine QD ?_
 refine Qs ?_
 exact Zg Y Y (Xg _) (Xb _) ⟨Y,Y⟩
theorem eqS_ne {nm:Nat→ByteArray} {n:Nat} (h:0<n):eqS nm n≠kE:=by
 obtain ⟨n,rfl⟩:∃ k,n=k+1:=⟨n - 1,by omega⟩
 intro q
 have:=congrArg ByteArray.size q
 rw [eqS,ByteArray.size_append] at this
 unfold twoT at this
 simp only [ByteArray.size_append] at this
 have h2:kEqN.size=2:=rfl
 have h3:kE.size=0:=rfl
 omega
theorem eq_c {nm:Nat→ByteArray} (hm:NmT nm) (d:Da) (i:Nat) (c:Cn) (hc:d.cs[i]?=some c) (hn:c.ts.length≤8) (hs:c.s.size≤40):PCall Tryz.prog 80 [.agg d.cells,.val (.int .i64 i)] (.val (.string (eqT nm c.s c.ts.length d.cs.length))):=by
 have HA:=args_c hm c kY by17 hn
 have HW:=fun k (h:k<8)=>two_c hm kEqN by17 k h
 have hES:=eqS_size hm.sz
 have hAS:=args_size hm.sz (of:=kY) by17 _ hn
 have hTS:=fun k (h:k<8)=>two_size hm.sz kEqN (i:=k) h
 have hk2:kEqN.size=2:=rfl
 obtain ⟨ds,dps,dcs,ddv,dp⟩:=d
 obtain ⟨cs,cts,cp⟩:=c
 replace hn:cts.length≤8:=hn
 replace hs:cs.size≤40:=hs
 replace hc:dcs[i]?=some (Cn.mk cs cts cp):=hc
 replace HA:PCall Tryz.prog 79 [.agg (Cn.mk cs cts cp).cells,.val (.string kY)] (.val (.string (argsT nm kY cts.length))):=HA
 replace hAS:(argsT nm kY cts.length).size≤3 * cts.length:=hAS
 have hl:=Ty.cellss_len cts
 have hlc:=Cn.cellss_len dcs
 have hcc:=Cn.cellss_get hc
 obtain ⟨r,hr⟩:∃ r,eqT nm cs cts.length dcs.length=r:=⟨_,rfl⟩
 show PCall Tryz.prog _ _ (.val (.string (eqT nm cs cts.length dcs.length)))
 rw [hr]
 unfold eqT at hr
 simp only [Da.cells] at *
 have z1:(⟨#[99,97,115,101,32,121,32,111,102,32]⟩:ByteArray).size=10:=rfl
 have z2:(⟨#[32,45,62,32]⟩:ByteArray).size=4:=rfl
 have z3:(⟨#[32,124,32,95,32,45,62,32,70,97,108,115,101]⟩:ByteArray).size=13:=rfl
 have z4:(⟨#[32,101,110,100]⟩:ByteArray).size=4:=rfl
 have z5:(⟨#[84,114,117,101]⟩:ByteArray).size=4:=rfl
 have z6:(⟨#[32,38,38,32]⟩:ByteArray).size=4:=rfl
 refine Zc Tryz.func80 Y (by kernel_rfl) Y (Xm Y) ?_
 refine Qn ?_
 refine QaU ?_
 refine Qf ?_
 refine Q4 ?_
 refine Qb ?_
 refine QdO ?_
 refine QcN ?_
 refine Qcb ?_;intro b5
 refine Qcc ?_
 refine Qa ?_
 refine Qcm ?_
 refine Q3 ?_
 apply Zy (rg [(0,2),(3,1),(6,22)]) (σ:=Nat) (fun zz=>match zz with|k=>[(7,.val (.int .i64 k)),(6,.val (.string (eqS nm k)))]) (fun zz=>match zz with|k=>k≤cts.length) (fun zz=>match zz with|k=>cts.length - k) (0)
 ·repeat' (first|exact Xp|apply Xn rfl|apply Xo rfl)
 ·exact Nat.zero_le _
 ·exact Xj Y (Xg _) (Xj Y (Xg _) (SLe.nil _))
 rintro k hI
 try dsimp only [List.cons_append,List.nil_append] at hI ⊢
 have hk:=hI
 have hz1:=hES k by18
 refine Qw ?_
 refine Qar ?_
 refine QW ?_;intro n16
 refine Qk ?_;intro c17 h17
 refine Qa ?_
 obtain ⟨rfl,g17⟩|⟨rfl,g17⟩:=Za h17
 ·refine Qbp ?_
  obtain rfl:k=cts.length:=by omega
  refine Qe ?_
  refine Qas ?_;intro c29 h29
  refine Qa ?_
  obtain ⟨rfl,g29⟩|⟨rfl,g29⟩:=Za h29
  ·refine Q7 ?_
   first
   |(have h0:cts.length=0:=Nat.eq_zero_of_not_pos (fun q=>eqS_ne q g29);rw [if_pos h0] at hr)
   |(have h0:¬ cts.length=0:=fun q=>g29 (by rw [q];rfl);rw [if_neg h0] at hr)
   have hz5:kTrue.size=4:=rfl
   have hAS2:=hAS
   generalize argsT nm kY cts.length=ar at *
   refine Qb5 ?_
   refine Qbt ?_
   refine QcO ?_
   refine QaT ?_
   refine QbL ?_
   refine Zu 34 Y Y (Ze (xs:=[.tmp 33,.const (.string ⟨#[121]⟩)]) Y Y (HA) by3 ⟨Y,Y⟩) ?_
   refine QbF ?_
   refine QR ?_
   refine QaT ?_
   refine QbM ?_
   show AGo _ _ _ _ _ _ _
   refine QaS ?_
   refine Q4 ?_
   refine Qbl ?_;intro n41
   refine Q0 ?_;intro c42 h42
   refine Qa ?_
   obtain ⟨rfl,g42⟩|⟨rfl,g42⟩:=Za h42
   ·refine QY ?_
    refine QD ?_
    refine Qs ?_
    first
    |(rw [if_pos by18] at hr;exact Zg rfl rfl (Le.str hr) (Xb _) ⟨rfl,rfl⟩)
    |(rw [if_neg by18] at hr;exact Zg rfl rfl (Le.str hr) (Xb _) ⟨rfl,rfl⟩)
   refine Qbb ?_
   refine QD ?_
   refine QaR ?_
   refine QD ?_
   refine Qs ?_
   first
   |(rw [if_pos by18] at hr;exact Zg rfl rfl (Le.str hr) (Xb _) ⟨rfl,rfl⟩)
   |(rw [if_neg by18] at hr;exact Zg rfl rfl (Le.str hr) (Xb _) ⟨rfl,rfl⟩)
  refine Qh ?_
  refine Qi ?_
  refine Qaw ?_
  first
  |(have h0:cts.length=0:=Nat.eq_zero_of_not_pos (fun q=>eqS_ne q g29);rw [if_pos h0] at hr)
  |(have h0:¬ cts.length=0:=fun q=>g29 (by rw [q];rfl);rw [if_neg h0] at hr)
  have hz5:kTrue.size=4:=rfl
  have hAS2:=hAS
  generalize argsT nm kY cts.length=ar at *
  refine Qb5 ?_
  refine Qbt ?_
  refine QcO ?_
  refine QaT ?_
  refine QbL ?_
  refine Zu 34 Y Y (Ze (xs:=[.tmp 33,.const (.string ⟨#[121]⟩)]) Y Y (HA) by3 ⟨Y,Y⟩) ?_
  refine QbF ?_
  refine QR ?_
  refine QaT ?_
  refine QbM ?_
  show AGo _ _ _ _ _ _ _
  refine QaS ?_
  refine Q4 ?_
  refine Qbl ?_;intro n41
  refine Q0 ?_;intro c42 h42
  refine Qa ?_
  obtain ⟨rfl,g42⟩|⟨rfl,g42⟩:=Za h42
  ·refine QY ?_
   refine QD ?_
   refine Qs ?_
   first
   |(rw [if_pos by18] at hr;exact Zg rfl rfl (Le.str hr) (Xb _) ⟨rfl,rfl⟩)
   |(rw [if_neg by18] at hr;exact Zg rfl rfl (Le.str hr) (Xb _) ⟨rfl,rfl⟩)
  refine Qbb ?_
  refine QD ?_
  refine QaR ?_
  refine QD ?_
  refine Qs ?_
  first
  |(rw [if_pos by18] at hr;exact Zg rfl rfl (Le.str hr) (Xb _) ⟨rfl,rfl⟩)
  |(rw [if_neg by18] at hr;exact Zg rfl rfl (Le.str hr) (Xb _) ⟨rfl,rfl⟩)
 refine Qae ?_
 refine QL ?_
 have HWk:=HW k by18
 have hz2:=hTS k by18
 have hst:eqS nm (k+1)=(if 0<k then eqS nm k++⟨#[32,38,38,32]⟩ else eqS nm k)++twoT nm kEqN k:=by rw [eqS]
 generalize twoT nm kEqN k=tw at *
 refine Qe ?_
 refine Q0 ?_;intro c21 h21
 refine Qa ?_
 obtain ⟨rfl,g21⟩|⟨rfl,g21⟩:=Za h21
 ·refine QN ?_
  refine QF ?_
  refine Zb 26 Y Y Y (Ze (xs:=[.const (.string ⟨#[101,113]⟩),.tmp 25]) Y Y (HWk) by3 ?_)
  refine QD ?_
  refine Qaz ?_
  first
  |(rw [if_pos by18] at hst;exact ⟨k+1,by show k+1≤cts.length;omega,by show cts.length - (k+1)<cts.length - k;omega,Xj rfl (Xg _) (Xj rfl (Le.str hst.symm) by6),by5⟩)
  |(rw [if_neg by18] at hst;exact ⟨k+1,by show k+1≤cts.length;omega,by show cts.length - (k+1)<cts.length - k;omega,Xj rfl (Xg _) (Xj rfl (Le.str hst.symm) by6),by5⟩)
 refine Qbb ?_
 refine QD ?_
 refine Qf ?_
 refine QF ?_
 refine Zb 26 Y Y Y (Ze (xs:=[.const (.string ⟨#[101,113]⟩),.tmp 25]) Y Y (HWk) by3 ?_)
 refine QD ?_
 refine Qaz ?_
 first
 |(rw [if_pos by18] at hst;exact ⟨k+1,by show k+1≤cts.length;omega,by show cts.length - (k+1)<cts.length - k;omega,Xj rfl (Xg _) (Xj rfl (Le.str hst.symm) by6),by5⟩)
 |(rw [if_neg by18] at hst;exact ⟨k+1,by show k+1≤cts.length;omega,by show cts.length - (k+1)<cts.length - k;omega,Xj rfl (Xg _) (Xj rfl (Le.str hst.symm) by6),by5⟩)
theorem order_c {nm:Nat→ByteArray} (hm:NmT nm) (c:Cn):∀ r k,c.ts.length=k+1+r→c.ts.length≤8→PCall Tryz.prog 102 [.agg c.cells,.val (.int .i64 k)] (.val (.string (ordT nm r k)))
 | 0,k,h,hb=>by
  have HW:=two_c hm kCmp by17 k by18
  rw [ordT]
  generalize twoT nm kCmp k=tw at *
  obtain ⟨cs,cts,cp⟩:=c
  replace h:cts.length=k+1:=h
  have hl:=Ty.cellss_len cts
  refine Qen ?_
  refine Qn ?_
  refine QcM ?_
  refine Qaw ?_
  refine Q4 ?_
  refine QW ?_;intro n7
  refine Qj ?_;intro c8 h8
  refine Qa ?_
  obtain ⟨rfl,g8⟩|⟨rfl,g8⟩:=Za h8
  ·refine QN ?_
   refine QO ?_
   refine QW ?_;intro n12
   refine QT ?_
   refine Qj ?_;intro c14 h14
   refine Qa ?_
   obtain ⟨rfl,g14⟩|⟨rfl,g14⟩:=Za h14
   ·omega
   refine QaP ?_
   refine Zb 16 Y Y Y (Ze (xs:=[.const (.string ⟨#[99,111,109,112,97,114,101]⟩),.tmp 15]) Y Y (HW) by3 ?_)
   refine Qs ?_
   exact Zg Y Y (Xg _) (Xb _) ⟨Y,Y⟩
  omega
 | r+1,k,h,hb=>by
  have IH:=order_c hm c r (k+1) by18 hb
  have HW:=two_c hm kCmp by17 k by18
  have hz1:=two_size hm.sz kCmp (i:=k) by18
  have hz2:=ord_size hm.sz r (k+1) by18
  have hz3:kCmp.size=7:=rfl
  rw [ordT]
  generalize twoT nm kCmp k=tw at *
  generalize ordT nm r (k+1)=ow at *
  obtain ⟨cs,cts,cp⟩:=c
  replace h:cts.length=k+1+(r+1):=h
  replace hb:cts.length≤8:=hb
  have hl:=Ty.cellss_len cts
  have z1:(⟨#[99,97,115,101,32]⟩:ByteArray).size=5:=rfl
  have z2:(⟨#[32,111,102,32,69,81,32,45,62,32]⟩:ByteArray).size=10:=rfl
  have z3:(⟨#[32,124,32,114,32,45,62,32,114,32,101,110,100]⟩:ByteArray).size=13:=rfl
  refine Qen ?_
  refine Qn ?_
  refine QcM ?_
  refine Qaw ?_
  refine Q4 ?_
  refine QW ?_;intro n7
  refine Qj ?_;intro c8 h8
  refine Qa ?_
  obtain ⟨rfl,g8⟩|⟨rfl,g8⟩:=Za h8
  ·refine QN ?_
   refine QO ?_
   refine QW ?_;intro n12
   refine QT ?_
   refine Qj ?_;intro c14 h14
   refine Qa ?_
   obtain ⟨rfl,g14⟩|⟨rfl,g14⟩:=Za h14
   ·refine Q7 ?_
    refine QbP ?_
    refine Zu 18 Y Y (Ze (xs:=[.const (.string ⟨#[99,111,109,112,97,114,101]⟩),.tmp 17]) Y Y (HW) by3 ⟨Y,Y⟩) ?_
    refine QbF ?_
    refine Qfv ?_
    refine QR ?_
    refine Zu 23 Y Y (op_add Y Y Y (IntWalk.i64_in _ by18) ⟨Y,Y⟩) ?_
    refine Zu 24 Y Y (Ze (xs:=[.tmp 21,.tmp 23]) Y Y (IH) by3 ⟨Y,Y⟩) ?_
    refine QbF ?_
    refine QbM ?_
    show AGo _ _ _ _ _ _ _
    refine QX ?_
    exact Zg Y Y (Xg _) (Xb _) ⟨Y,Y⟩
   omega
  omega
theorem order0_c {nm:Nat→ByteArray} (hm:NmT nm) (c:Cn) (hb:c.ts.length≤8):PCall Tryz.prog 102 [.agg c.cells,.val (.int .i64 0)] (.val (.string (orderT nm c.ts.length))):=by
 unfold orderT
 by_cases h:c.ts.length=0
 ·rw [if_pos h]
  obtain ⟨cs,cts,cp⟩:=c
  replace h:cts.length=0:=h
  have hl:=Ty.cellss_len cts
  refine Qen ?_
  refine Qn ?_
  refine QcM ?_
  refine Qaw ?_
  refine Q4 ?_
  refine QW ?_;intro n7
  refine Qj ?_;intro c8 h8
  refine Qa ?_
  obtain ⟨rfl,g8⟩|⟨rfl,g8⟩:=Za h8
  ·omega
  refine Qr ?_
  exact Zg Y Y (Xg _) (Xb _) ⟨Y,Y⟩
 rw [if_neg h]
 exact order_c hm c _ 0 by18 hb
theorem cmpF_1 {nm:Nat→ByteArray} {i k:Nat} {c:Cn} (s:ByteArray) (h:k<i):s++cmpF nm i k c=s++c.s++argsT nm kE c.ts.length++⟨#[32,45,62,32,71,84]⟩:=by
 unfold cmpF
 rw [if_pos h]
 simp only [ByteArray.append_assoc]
theorem cmpF_2 {nm:Nat→ByteArray} {i k:Nat} {c:Cn} (s:ByteArray) (h:k=i):s++cmpF nm i k c=s++c.s++argsT nm kY c.ts.length++⟨#[32,45,62,32]⟩++orderT nm c.ts.length:=by
 unfold cmpF
 rw [if_neg by18,if_pos h]
 simp only [ByteArray.append_assoc]
theorem cmpF_3 {nm:Nat→ByteArray} {i k:Nat} {c:Cn} (s:ByteArray) (h:i<k):s++cmpF nm i k c=s++c.s++argsT nm kE c.ts.length++⟨#[32,45,62,32,76,84]⟩:=by
 unfold cmpF
 rw [if_neg by18,if_neg by18]
 simp only [ByteArray.append_assoc]
def CnS (cs:List Cn):Prop:=∀ c∈cs,c.s.size≤40∧c.ts.length≤8
theorem compare_c {nm:Nat→ByteArray} (hm:NmT nm) (d:Da) (i:Nat) (hcn:CnS d.cs) (hl6:d.cs.length≤6):PCall Tryz.prog 81 [.agg d.cells,.val (.int .i64 i)] (.val (.string (cmpT nm i d.cs))):=by
 have HA:=fun (c:Cn) of (ho:of.size≤1) (h:c.ts.length≤8)=>args_c hm c of ho h
 have HO:=fun (c:Cn) (h:c.ts.length≤8)=>order0_c hm c h
 have hAS:=fun (of:ByteArray) (ho:of.size≤1) n (h:n≤8)=>args_size hm.sz ho n h
 have hOS:=fun {n} (h:n≤8)=>order_size hm.sz (n:=n) h
 obtain ⟨ds,dps,dcs,ddv,dp⟩:=d
 replace hcn:CnS dcs:=hcn
 replace hl6:dcs.length≤6:=hl6
 have hlc:=Cn.cellss_len dcs
 show PCall Tryz.prog _ _ (.val (.string (cmpT nm i dcs)))
 unfold cmpT
 obtain ⟨r,hr⟩:∃ r,altT (cmpF nm i) 0 ⟨#[99,97,115,101,32,121,32,111,102,32]⟩ dcs=r:=⟨_,rfl⟩
 rw [hr]
 simp only [Da.cells]
 have z1:(⟨#[99,97,115,101,32,121,32,111,102,32]⟩:ByteArray).size=10:=rfl
 have z2:(⟨#[32,45,62,32]⟩:ByteArray).size=4:=rfl
 have z3:(⟨#[32,124,32]⟩:ByteArray).size=3:=rfl
 have z4:(⟨#[32,101,110,100]⟩:ByteArray).size=4:=rfl
 have z5:(⟨#[32,45,62,32,71,84]⟩:ByteArray).size=6:=rfl
 have z6:(⟨#[32,45,62,32,76,84]⟩:ByteArray).size=6:=rfl
 refine Zc Tryz.func81 Y (by kernel_rfl) Y (Xm Y) ?_
 refine Qn ?_
 refine QaU ?_
 refine Qf ?_
 refine Qcm ?_
 refine Q3 ?_
 apply Zy (rg [(0,1),(3,1),(5,52)]) (σ:=Nat × ByteArray) (fun zz=>match zz with|(k,s)=>[(6,.val (.int .i64 k)),(5,.val (.string s))]) (fun zz=>match zz with|(k,s)=>k≤dcs.length∧s.size≤10+1000 * k∧altT (cmpF nm i) k s (dcs.drop k)=r) (fun zz=>match zz with|(k,s)=>dcs.length - k) ((0,⟨#[99,97,115,101,32,121,32,111,102,32]⟩))
 ·repeat' (first|exact Xp|apply Xn rfl|apply Xo rfl)
 ·exact ⟨Nat.zero_le _,Nat.le_refl _,hr⟩
 ·exact Xj Y (Xg _) (Xj Y (Xg _) (SLe.nil _))
 rintro ⟨k,s⟩ hI
 try dsimp only [List.cons_append,List.nil_append] at hI ⊢
 obtain ⟨hk,hss,hA⟩:=hI
 refine QO ?_
 refine Qbl ?_;intro n11
 refine Qk ?_;intro c12 h12
 refine Qa ?_
 obtain ⟨rfl,g12⟩|⟨rfl,g12⟩:=Za h12
 ·refine QE ?_
  rw [Xr by18,altT] at hA
  subst hA
  refine Qe ?_
  refine QD ?_
  refine Qs ?_
  exact Zg Y Y (Xg _) (Xb _) ⟨Y,Y⟩
 refine Qx ?_
 obtain ⟨⟨qs,qts,qp⟩,hxq⟩:=Zo (l:=dcs) (i:=k) by9
 have hcq:=Cn.cellss_get hxq
 have hmq:=Xq hxq
 obtain ⟨hq1,hq2⟩:=hcn _ hmq
 replace hq1:qs.size≤40:=hq1
 replace hq2:qts.length≤8:=hq2
 rw [drop_at hxq,altT] at hA
 have HE:PCall Tryz.prog 79 _ (.val (.string (argsT nm kE qts.length))):=HA (Cn.mk qs qts qp) kE by17 hq2
 have HY:PCall Tryz.prog 79 _ (.val (.string (argsT nm kY qts.length))):=HA (Cn.mk qs qts qp) kY by17 hq2
 have HOq:PCall Tryz.prog 102 _ (.val (.string (orderT nm qts.length))):=HO (Cn.mk qs qts qp) hq2
 have y1:=hAS kE by17 _ hq2
 have y2:=hAS kY by17 _ hq2
 have y3:=hOS hq2
 have f1:=fun s (h:k<i)=>cmpF_1 (nm:=nm) (i:=i) (k:=k) (c:=Cn.mk qs qts qp) s h
 have f2:=fun s (h:k=i)=>cmpF_2 (nm:=nm) (i:=i) (k:=k) (c:=Cn.mk qs qts qp) s h
 have f3:=fun s (h:i<k)=>cmpF_3 (nm:=nm) (i:=i) (k:=k) (c:=Cn.mk qs qts qp) s h
 simp only [Cn.s,Cn.ts] at f1 f2 f3
 generalize argsT nm kE qts.length=aE at *
 generalize argsT nm kY qts.length=aY at *
 generalize orderT nm qts.length=oq at *
 refine Qi ?_
 refine Qay ?_
 refine Qdb ?_
 refine QcN ?_
 refine Qcb ?_;intro b7
 refine Qcc ?_
 refine Q2 ?_
 refine Q0 ?_;intro c21 h21
 refine Qa ?_
 obtain ⟨rfl,g21⟩|⟨rfl,g21⟩:=Za h21
 ·refine QN ?_
  refine QP ?_
  refine Qk ?_;intro c26 h26
  refine Qa ?_
  obtain ⟨rfl,g26⟩|⟨rfl,g26⟩:=Za h26
  ·refine QH ?_
   refine QP ?_
   refine Qj ?_;intro c37 h37
   refine Qa ?_
   obtain ⟨rfl,g37⟩|⟨rfl,g37⟩:=Za h37
   ·refine QH ?_
    refine QbP ?_
    refine Qbt ?_
    refine QcO ?_
    refine QaT ?_
    refine QbL ?_
    refine Zu 54 Y Y (Ze (xs:=[.tmp 53,.const (.string ⟨#[]⟩)]) Y Y (HE) by3 ⟨Y,Y⟩) ?_
    refine QbF ?_
    refine QbM ?_
    show AGo _ _ _ _ _ _ _
    refine Qaq ?_
    first
    |(exfalso;omega)
    | rw [if_pos by18] at hA
    | rw [if_neg by18] at hA
    first
    | done
    |(rw [f1 _ by18] at hA;exact ⟨(k+1,_),⟨by show k+1≤dcs.length;omega,by (first|omega|(simp only [ByteArray.size_append];omega)),hA⟩,by show dcs.length - (k+1)<dcs.length - k;omega,by6,by5⟩)
    |(rw [f2 _ by18] at hA;exact ⟨(k+1,_),⟨by show k+1≤dcs.length;omega,by (first|omega|(simp only [ByteArray.size_append];omega)),hA⟩,by show dcs.length - (k+1)<dcs.length - k;omega,by6,by5⟩)
    |(rw [f3 _ by18] at hA;exact ⟨(k+1,_),⟨by show k+1≤dcs.length;omega,by (first|omega|(simp only [ByteArray.size_append];omega)),hA⟩,by show dcs.length - (k+1)<dcs.length - k;omega,by6,by5⟩)
   refine Qh ?_
   refine QbP ?_
   refine Qbt ?_
   refine QcO ?_
   refine QaT ?_
   refine QbL ?_
   refine Zu 43 Y Y (Ze (xs:=[.tmp 42,.const (.string ⟨#[121]⟩)]) Y Y (HY) by3 ⟨Y,Y⟩) ?_
   refine QbF ?_
   refine QbL ?_
   refine Zu 47 Y Y (Ze (xs:=[.tmp 46,.const (.int .i64 0)]) Y Y (HOq) by3 ⟨Y,Y⟩) ?_
   refine QaT ?_
   refine QbM ?_
   show AGo _ _ _ _ _ _ _
   refine Qaq ?_
   first
   |(exfalso;omega)
   | rw [if_pos by18] at hA
   | rw [if_neg by18] at hA
   first
   | done
   |(rw [f1 _ by18] at hA;exact ⟨(k+1,_),⟨by show k+1≤dcs.length;omega,by (first|omega|(simp only [ByteArray.size_append];omega)),hA⟩,by show dcs.length - (k+1)<dcs.length - k;omega,by6,by5⟩)
   |(rw [f2 _ by18] at hA;exact ⟨(k+1,_),⟨by show k+1≤dcs.length;omega,by (first|omega|(simp only [ByteArray.size_append];omega)),hA⟩,by show dcs.length - (k+1)<dcs.length - k;omega,by6,by5⟩)
   |(rw [f3 _ by18] at hA;exact ⟨(k+1,_),⟨by show k+1≤dcs.length;omega,by (first|omega|(simp only [ByteArray.size_append];omega)),hA⟩,by show dcs.length - (k+1)<dcs.length - k;omega,by6,by5⟩)
  refine Qh ?_
  refine QbP ?_
  refine Qbt ?_
  refine QcO ?_
  refine QaT ?_
  refine QbL ?_
  refine Zu 32 Y Y (Ze (xs:=[.tmp 31,.const (.string ⟨#[]⟩)]) Y Y (HE) by3 ⟨Y,Y⟩) ?_
  refine QbF ?_
  refine QbM ?_
  show AGo _ _ _ _ _ _ _
  refine Qaq ?_
  first
  |(exfalso;omega)
  | rw [if_pos by18] at hA
  | rw [if_neg by18] at hA
  first
  | done
  |(rw [f1 _ by18] at hA;exact ⟨(k+1,_),⟨by show k+1≤dcs.length;omega,by (first|omega|(simp only [ByteArray.size_append];omega)),hA⟩,by show dcs.length - (k+1)<dcs.length - k;omega,by6,by5⟩)
  |(rw [f2 _ by18] at hA;exact ⟨(k+1,_),⟨by show k+1≤dcs.length;omega,by (first|omega|(simp only [ByteArray.size_append];omega)),hA⟩,by show dcs.length - (k+1)<dcs.length - k;omega,by6,by5⟩)
  |(rw [f3 _ by18] at hA;exact ⟨(k+1,_),⟨by show k+1≤dcs.length;omega,by (first|omega|(simp only [ByteArray.size_append];omega)),hA⟩,by show dcs.length - (k+1)<dcs.length - k;omega,by6,by5⟩)
 refine Qbb ?_
 refine QD ?_
 refine Qf ?_
 refine QP ?_
 refine Qk ?_;intro c26 h26
 refine Qa ?_
 obtain ⟨rfl,g26⟩|⟨rfl,g26⟩:=Za h26
 ·refine QH ?_
  refine QP ?_
  refine Qj ?_;intro c37 h37
  refine Qa ?_
  obtain ⟨rfl,g37⟩|⟨rfl,g37⟩:=Za h37
  ·refine QH ?_
   refine QbP ?_
   refine Qbt ?_
   refine QcO ?_
   refine QaT ?_
   refine QbL ?_
   refine Zu 54 Y Y (Ze (xs:=[.tmp 53,.const (.string ⟨#[]⟩)]) Y Y (HE) by3 ⟨Y,Y⟩) ?_
   refine QbF ?_
   refine QbM ?_
   show AGo _ _ _ _ _ _ _
   refine Qaq ?_
   first
   |(exfalso;omega)
   | rw [if_pos by18] at hA
   | rw [if_neg by18] at hA
   first
   | done
   |(rw [f1 _ by18] at hA;exact ⟨(k+1,_),⟨by show k+1≤dcs.length;omega,by (first|omega|(simp only [ByteArray.size_append];omega)),hA⟩,by show dcs.length - (k+1)<dcs.length - k;omega,by6,by5⟩)
   |(rw [f2 _ by18] at hA;exact ⟨(k+1,_),⟨by show k+1≤dcs.length;omega,by (first|omega|(simp only [ByteArray.size_append];omega)),hA⟩,by show dcs.length - (k+1)<dcs.length - k;omega,by6,by5⟩)
   |(rw [f3 _ by18] at hA;exact ⟨(k+1,_),⟨by show k+1≤dcs.length;omega,by (first|omega|(simp only [ByteArray.size_append];omega)),hA⟩,by show dcs.length - (k+1)<dcs.length - k;omega,by6,by5⟩)
  refine Qh ?_
  refine QbP ?_
  refine Qbt ?_
  refine QcO ?_
  refine QaT ?_
  refine QbL ?_
  refine Zu 43 Y Y (Ze (xs:=[.tmp 42,.const (.string ⟨#[121]⟩)]) Y Y (HY) by3 ⟨Y,Y⟩) ?_
  refine QbF ?_
  refine QbL ?_
  refine Zu 47 Y Y (Ze (xs:=[.tmp 46,.const (.int .i64 0)]) Y Y (HOq) by3 ⟨Y,Y⟩) ?_
  refine QaT ?_
  refine QbM ?_
  show AGo _ _ _ _ _ _ _
  refine Qaq ?_
  first
  |(exfalso;omega)
  | rw [if_pos by18] at hA
  | rw [if_neg by18] at hA
  first
  | done
  |(rw [f1 _ by18] at hA;exact ⟨(k+1,_),⟨by show k+1≤dcs.length;omega,by (first|omega|(simp only [ByteArray.size_append];omega)),hA⟩,by show dcs.length - (k+1)<dcs.length - k;omega,by6,by5⟩)
  |(rw [f2 _ by18] at hA;exact ⟨(k+1,_),⟨by show k+1≤dcs.length;omega,by (first|omega|(simp only [ByteArray.size_append];omega)),hA⟩,by show dcs.length - (k+1)<dcs.length - k;omega,by6,by5⟩)
  |(rw [f3 _ by18] at hA;exact ⟨(k+1,_),⟨by show k+1≤dcs.length;omega,by (first|omega|(simp only [ByteArray.size_append];omega)),hA⟩,by show dcs.length - (k+1)<dcs.length - k;omega,by6,by5⟩)
 refine Qh ?_
 refine QbP ?_
 refine Qbt ?_
 refine QcO ?_
 refine QaT ?_
 refine QbL ?_
 refine Zu 32 Y Y (Ze (xs:=[.tmp 31,.const (.string ⟨#[]⟩)]) Y Y (HE) by3 ⟨Y,Y⟩) ?_
 refine QbF ?_
 refine QbM ?_
 show AGo _ _ _ _ _ _ _
 refine Qaq ?_
 first
 |(exfalso;omega)
 | rw [if_pos by18] at hA
 | rw [if_neg by18] at hA
 first
 | done
 |(rw [f1 _ by18] at hA;exact ⟨(k+1,_),⟨by show k+1≤dcs.length;omega,by (first|omega|(simp only [ByteArray.size_append];omega)),hA⟩,by show dcs.length - (k+1)<dcs.length - k;omega,by6,by5⟩)
 |(rw [f2 _ by18] at hA;exact ⟨(k+1,_),⟨by show k+1≤dcs.length;omega,by (first|omega|(simp only [ByteArray.size_append];omega)),hA⟩,by show dcs.length - (k+1)<dcs.length - k;omega,by6,by5⟩)
 |(rw [f3 _ by18] at hA;exact ⟨(k+1,_),⟨by show k+1≤dcs.length;omega,by (first|omega|(simp only [ByteArray.size_append];omega)),hA⟩,by show dcs.length - (k+1)<dcs.length - k;omega,by6,by5⟩)
theorem show_c {nm:Nat→ByteArray} (hm:NmT nm) (d:Da) (i:Nat) (c:Cn) (hc:d.cs[i]?=some c) (hn:c.ts.length≤8) (hs:c.s.size≤40):PCall Tryz.prog 82 [.agg d.cells,.val (.int .i64 i)] (.val (.string (showT nm c))):=by
 have HT:=hm.tx
 have hsz:=hm.sz
 have hSS:=shS_size hm.sz hs
 obtain ⟨ds,dps,dcs,ddv,dp⟩:=d
 obtain ⟨cs,cts,cp⟩:=c
 replace hn:cts.length≤8:=hn
 replace hs:cs.size≤40:=hs
 replace hc:dcs[i]?=some (Cn.mk cs cts cp):=hc
 replace hSS:∀ n,n≤8→(shS nm cs n).size≤44+16 * n:=hSS
 have hl:=Ty.cellss_len cts
 have hlc:=Cn.cellss_len dcs
 have hcc:=Cn.cellss_get hc
 show PCall Tryz.prog _ _ (.val (.string (if cts.length=0 then ⟨#[34]⟩++cs++⟨#[34]⟩ else shS nm cs cts.length++⟨#[32,94,32,34,41,34]⟩)))
 simp only [Da.cells]
 have z1:(⟨#[34]⟩:ByteArray).size=1:=rfl
 have z2:(⟨#[34,40]⟩:ByteArray).size=2:=rfl
 have z3:(⟨#[32,34]⟩:ByteArray).size=2:=rfl
 have z4:(⟨#[32,94,32,34,32,34]⟩:ByteArray).size=6:=rfl
 have z5:(⟨#[32,94,32,115,104,111,119,32,120]⟩:ByteArray).size=9:=rfl
 have z6:(⟨#[32,94,32,34,41,34]⟩:ByteArray).size=6:=rfl
 refine Zc Tryz.func82 Y (by kernel_rfl) Y (Xm Y) ?_
 refine Qn ?_
 refine QaU ?_
 refine Qf ?_
 refine Q4 ?_
 refine Qb ?_
 refine QdO ?_
 refine QcN ?_
 refine Qcb ?_;intro b5
 refine Qcc ?_
 refine QbD ?_
 refine QW ?_;intro n15
 refine Qj ?_;intro c16 h16
 refine Qa ?_
 obtain ⟨rfl,g16⟩|⟨rfl,g16⟩:=Za h16
 ·refine Q7 ?_
  rw [if_neg by18]
  refine QaX ?_
  refine QcE ?_
  refine QD ?_
  refine QD ?_
  refine Qaw ?_
  refine Q3 ?_
  apply Zy (rg [(0,4),(6,36)]) (σ:=Nat) (fun zz=>match zz with|k=>[(7,.val (.int .i64 k)),(6,.val (.string (shS nm cs k)))]) (fun zz=>match zz with|k=>k≤cts.length) (fun zz=>match zz with|k=>cts.length - k) (0)
  ·repeat' (first|exact Xp|apply Xn rfl|apply Xo rfl)
  ·exact Nat.zero_le _
  ·exact Xj Y (Xg _) (Xj Y (Xg _) (SLe.nil _))
  rintro k hI
  try dsimp only [List.cons_append,List.nil_append] at hI ⊢
  have hk:=hI
  have hz1:=hSS k by18
  refine Qw ?_
  refine Qar ?_
  refine QW ?_;intro n28
  refine Qk ?_;intro c29 h29
  refine Qa ?_
  obtain ⟨rfl,g29⟩|⟨rfl,g29⟩:=Za h29
  ·refine QE ?_
   obtain rfl:k=cts.length:=by omega
   refine Qe ?_
   refine QD ?_
   refine Qs ?_
   exact Zg Y Y (Xg _) (Xb _) ⟨Y,Y⟩
  refine Qae ?_
  refine QL ?_
  have HTk:=HT k
  have hz2:=hsz k by18
  have hst:shS nm cs (k+1)=(if 0<k then shS nm cs k++⟨#[32,94,32,34,32,34]⟩ else shS nm cs k)++⟨#[32,94,32,115,104,111,119,32,120]⟩++nm k:=by rw [shS]
  refine Qe ?_
  refine Q0 ?_;intro c33 h33
  refine Qa ?_
  obtain ⟨rfl,g33⟩|⟨rfl,g33⟩:=Za h33
  ·refine QN ?_
   refine Qe ?_
   refine QD ?_
   refine Qb ?_
   refine QaI ?_
   refine Zb 40 Y Y Y (Ze (xs:=[.tmp 39]) Y Y (HTk) by3 ?_)
   refine QD ?_
   refine Qaz ?_
   first
   |(rw [if_pos by18] at hst;exact ⟨k+1,by show k+1≤cts.length;omega,by show cts.length - (k+1)<cts.length - k;omega,Xj rfl (Xg _) (Xj rfl (Le.str hst.symm) by6),by5⟩)
   |(rw [if_neg by18] at hst;exact ⟨k+1,by show k+1≤cts.length;omega,by show cts.length - (k+1)<cts.length - k;omega,Xj rfl (Xg _) (Xj rfl (Le.str hst.symm) by6),by5⟩)
  refine Qbb ?_
  refine QD ?_
  refine Qf ?_
  refine Qe ?_
  refine QD ?_
  refine Qb ?_
  refine QaI ?_
  refine Zb 40 Y Y Y (Ze (xs:=[.tmp 39]) Y Y (HTk) by3 ?_)
  refine QD ?_
  refine Qaz ?_
  first
  |(rw [if_pos by18] at hst;exact ⟨k+1,by show k+1≤cts.length;omega,by show cts.length - (k+1)<cts.length - k;omega,Xj rfl (Xg _) (Xj rfl (Le.str hst.symm) by6),by5⟩)
  |(rw [if_neg by18] at hst;exact ⟨k+1,by show k+1≤cts.length;omega,by show cts.length - (k+1)<cts.length - k;omega,Xj rfl (Xg _) (Xj rfl (Le.str hst.symm) by6),by5⟩)
 refine Qh ?_
 refine Qbo ?_
 refine QD ?_
 refine QD ?_
 refine Qs ?_
 rw [if_pos by18];exact Zg rfl rfl (Xg _) (Xb _) ⟨rfl,rfl⟩
theorem allF_app {nm:Nat→ByteArray} (one:Nat→Cn→ByteArray) (k:Nat) (c:Cn) (s:ByteArray):s++allF nm one k c=s++c.s++argsT nm kX c.ts.length++⟨#[32,45,62,32]⟩++one k c:=by
 unfold allF
 simp only [ByteArray.append_assoc]
def nameT (cl:ByteArray):ByteArray:=if cl=kcShow then kShw else if cl=kcOrd then kCmp else if cl=kcEq then kEqN else kE
def headT (cl:ByteArray):ByteArray:=if cl=kcShow then kHead1 else kHead2
def oneT (nm:Nat→ByteArray) (cs:List Cn) (cl:ByteArray) (k:Nat) (c:Cn):ByteArray:=if cl=kcEq then eqT nm c.s c.ts.length cs.length else if cl=kcOrd then cmpT nm k cs else if cl=kcShow then showT nm c else kE
def textT (nm:Nat→ByteArray) (cs:List Cn) (cl:ByteArray):ByteArray:=if nameT cl=kE then kHead2++⟨#[32,101,110,100]⟩ else allT nm (headT cl) (oneT nm cs cl) cs
theorem kc_ne:kcEq≠kcOrd∧kcEq≠kcShow∧kcOrd≠kcShow∧kShw≠kE∧kCmp≠kE∧kEqN≠kE:=by decide +kernel
theorem head_no {cl:ByteArray} (h:nameT cl=kE):headT cl=kHead2:=by
 unfold nameT at h
 unfold headT
 by_cases q:cl=kcShow
 ·rw [if_pos q] at h;exact absurd h kc_ne.2.2.2.1
 rw [if_neg q]
theorem name_eq:nameT kcEq=kEqN:=by decide +kernel
theorem name_ord:nameT kcOrd=kCmp:=by decide +kernel
theorem name_show:nameT kcShow=kShw:=by decide +kernel
theorem name_not {cl:ByteArray} (h1:cl≠kcEq) (h2:cl≠kcOrd) (h3:cl≠kcShow):nameT cl=kE:=by
 unfold nameT
 rw [if_neg h3,if_neg h2,if_neg h1]
theorem text18_c {nm:Nat→ByteArray} (hm:NmT nm) (d:Da) (cl:ByteArray) (hcn:CnS d.cs) (hl6:d.cs.length≤6):PCall Tryz.prog 50 [.agg d.cells,.val (.string cl)] (.tup [.val (.string (textT nm d.cs cl)),.val (.string (nameT cl))]):=by
 have HA:=fun (c:Cn) (h:c.ts.length≤8)=>args_c hm c kX by17 h
 have HE:=fun k c (hc:d.cs[k]?=some c) h1 h2=>eq_c hm d k c hc h1 h2
 have HC:=fun k=>compare_c hm d k hcn hl6
 have HS:=fun k c (hc:d.cs[k]?=some c) h1 h2=>show_c hm d k c hc h1 h2
 have hAS:=fun n (h:n≤8)=>args_size hm.sz (of:=kX) by17 n h
 have hES:=fun (c:ByteArray) (hc:c.size≤40) n (h:n≤8) m=>eqT_size hm.sz hc h m
 have hCS:=fun k=>cmp_size hm.sz k hl6 hcn
 have hSS:=fun (c:Cn) (hc:c.s.size≤40) (h:c.ts.length≤8)=>show_size hm.sz hc h
 obtain ⟨ds,dps,dcs,ddv,dp⟩:=d
 replace hcn:CnS dcs:=hcn
 replace hl6:dcs.length≤6:=hl6
 have hlc:=Cn.cellss_len dcs
 show PCall Tryz.prog _ _ (.tup [.val (.string (textT nm dcs cl)),.val (.string (nameT cl))])
 obtain ⟨w,hw⟩:∃ w,textT nm dcs cl=w:=⟨_,rfl⟩
 rw [hw]
 unfold textT allT at hw
 obtain ⟨r,hr⟩:∃ r,altT (allF nm (oneT nm dcs cl)) 0 (headT cl) dcs=r:=⟨_,rfl⟩
 rw [hr] at hw
 simp only [Da.cells,Da.cs] at HA HE HC HS hCS ⊢
 have z1:kHead2.size=18:=rfl
 have z0:kHead1.size=16:=rfl
 have z2:(⟨#[32,45,62,32]⟩:ByteArray).size=4:=rfl
 have z3:(⟨#[32,124,32]⟩:ByteArray).size=3:=rfl
 have z4:(⟨#[32,101,110,100]⟩:ByteArray).size=4:=rfl
 have hhs:(headT cl).size≤20:=by unfold headT;split <;> decide
 refine Zc Tryz.func50 Y (by kernel_rfl) Y (Xm Y) ?_
 refine Qn ?_
 refine QaU ?_
 refine Qav ?_
 refine QK ?_
 refine QK ?_
 refine Qw ?_
 refine Qas ?_;intro c10 h10
 refine Qa ?_
 apply c_joinkm [0,3,7,9,10] (σ:=Unit) (fun zz=>match zz with|z=>[(7,.val (.string (if cl=kcEq then kEqN else kE)))]) (fun zz=>match zz with|z=>True)
 ·repeat' (first|exact Xp|apply Xn rfl|apply Xo rfl)
 ·skip
  obtain ⟨rfl,g10⟩|⟨rfl,g10⟩:=Za h10
  ·refine Qbx ?_
   first
   | exact ⟨(),trivial,Xj rfl (Le.str (if_pos g10).symm) by6,by5⟩
   | exact ⟨(),trivial,Xj rfl (Le.str (if_neg g10).symm) by6,by5⟩
  refine Qh ?_
  refine Qi ?_
  refine Qap ?_
  first
  | exact ⟨(),trivial,Xj rfl (Le.str (if_pos g10).symm) by6,by5⟩
  | exact ⟨(),trivial,Xj rfl (Le.str (if_neg g10).symm) by6,by5⟩
 rintro z hI
 try dsimp only [List.cons_append,List.nil_append] at hI ⊢
 refine Qc ?_
 refine Qw ?_
 refine Qas ?_;intro c12 h12
 refine Qa ?_
 apply c_joinkm [0,3,7,9,10,11,12] (σ:=Unit) (fun zz=>match zz with|z=>[(7,.val (.string (if cl=kcOrd then kCmp else if cl=kcEq then kEqN else kE)))]) (fun zz=>match zz with|z=>True)
 ·repeat' (first|exact Xp|apply Xn rfl|apply Xo rfl)
 ·skip
  obtain ⟨rfl,g12⟩|⟨rfl,g12⟩:=Za h12
  ·refine Qbx ?_
   first
   | exact ⟨(),trivial,Xj rfl (Le.str (if_pos g12).symm) by6,by5⟩
   | exact ⟨(),trivial,Xj rfl (Le.str (if_neg g12).symm) by6,by5⟩
  refine Qh ?_
  refine Qi ?_
  refine Qap ?_
  first
  | exact ⟨(),trivial,Xj rfl (Le.str (if_pos g12).symm) by6,by5⟩
  | exact ⟨(),trivial,Xj rfl (Le.str (if_neg g12).symm) by6,by5⟩
 rintro z hI
 try dsimp only [List.cons_append,List.nil_append] at hI ⊢
 refine Qc ?_
 refine Qw ?_
 refine Qas ?_;intro c14 h14
 refine Qa ?_
 apply c_joinkm [0,3,6,7,9,10,11,12,13,14] (σ:=Unit) (fun zz=>match zz with|z=>[(7,.val (.string (nameT cl))),(6,.val (.string (headT cl)))]) (fun zz=>match zz with|z=>True)
 ·repeat' (first|exact Xp|apply Xn rfl|apply Xo rfl)
 ·skip
  obtain ⟨rfl,g14⟩|⟨rfl,g14⟩:=Za h14
  ·refine Qbx ?_
   first
   | exact ⟨(),trivial,Xj rfl (Le.str (if_pos g14).symm) (Xj rfl (Le.str (if_pos g14).symm) by6),by5⟩
   | exact ⟨(),trivial,Xj rfl (Le.str (if_neg g14).symm) (Xj rfl (Le.str (if_neg g14).symm) by6),by5⟩
  refine Qh ?_
  refine QK ?_
  refine Qi ?_
  refine Qap ?_
  first
  | exact ⟨(),trivial,Xj rfl (Le.str (if_pos g14).symm) (Xj rfl (Le.str (if_pos g14).symm) by6),by5⟩
  | exact ⟨(),trivial,Xj rfl (Le.str (if_neg g14).symm) (Xj rfl (Le.str (if_neg g14).symm) by6),by5⟩
 rintro z hI
 try dsimp only [List.cons_append,List.nil_append] at hI ⊢
 refine QaS ?_
 refine Q3 ?_
 apply Zy (rg [(0,1),(3,1),(6,1),(8,60)]) (σ:=Nat × ByteArray) (fun zz=>match zz with|(k,s)=>[(8,.val (.int .i64 k)),(6,.val (.string s))]) (fun zz=>match zz with|(k,s)=>k≤dcs.length∧s.size≤20+4000 * k∧altT (allF nm (oneT nm dcs cl)) k s (dcs.drop k)=r∧(nameT cl=kE→s=kHead2)) (fun zz=>match zz with|(k,s)=>dcs.length - k) ((0,headT cl))
 ·repeat' (first|exact Xp|apply Xn rfl|apply Xo rfl)
 ·exact ⟨Nat.zero_le _,hhs,hr,head_no⟩
 ·exact Xj Y (Xg _) (Xj Y (Xg _) (SLe.nil _))
 rintro ⟨k,s⟩ hI
 try dsimp only [List.cons_append,List.nil_append] at hI ⊢
 obtain ⟨hk,hss,hA,hno⟩:=hI
 refine QL ?_
 refine Zx 23 (k<dcs.length∧nameT cl≠kE) ?_ _ _ Y ?_
 ·skip
  refine Qb ?_
  refine Qy ?_
  refine Qbl ?_;intro n18
  refine Qk ?_;intro c19 h19
  refine Qb ?_
  obtain ⟨rfl,g19⟩|⟨rfl,g19⟩:=Za h19
  ·skip
   refine Qai ?_
   refine Xk Y ?_ by7 by5
   first|(simp_all;done)|(simp_all;omega)|grind
  skip
  refine Qd ?_
  refine QcH ?_;intro c22 h22
  refine Qg ?_
  refine Xk Y ?_ by7 by5
  first|(simp_all;done)|(simp_all;omega)|grind
 intro c23 h23
 refine Qc ?_
 obtain ⟨rfl,g23⟩|⟨rfl,g23⟩:=Za h23
 ·refine QE ?_
  have hs2:s++⟨#[32,101,110,100]⟩=w:=by
   by_cases q:nameT cl=kE
   ·rw [if_pos q] at hw;rw [hno q,hw]
   rw [if_neg q] at hw
   have hkl:¬ k<dcs.length:=fun e=>g23 ⟨e,q⟩
   rw [Xr by18,altT] at hA
   rw [hA,hw]
  refine Qe ?_
  refine QD ?_
  refine Qb ?_
  refine Qbv ?_
  exact out_tt Y Y Y (Le.tup (Xi (Le.str hs2) (Xi (Xg _) (Xh _)))) (Xb _) ⟨Y,Y⟩
 refine Qae ?_
 refine QL ?_
 obtain ⟨⟨qs,qts,qp⟩,hxq⟩:=Zo (l:=dcs) (i:=k) by9
 have hcq:=Cn.cellss_get hxq
 have hmq:=Xq hxq
 obtain ⟨hq1,hq2⟩:=hcn _ hmq
 replace hq1:qs.size≤40:=hq1
 replace hq2:qts.length≤8:=hq2
 rw [drop_at hxq,altT] at hA
 have HX:PCall Tryz.prog 79 _ (.val (.string (argsT nm kX qts.length))):=HA (Cn.mk qs qts qp) hq2
 have HEk:=HE k _ hxq hq2 hq1
 have HCk:=HC k
 have HSk:=HS k _ hxq hq2 hq1
 have y1:=hAS _ hq2
 have y2:=hES qs hq1 _ hq2 dcs.length
 have y3:=hCS k
 have y4:=hSS (Cn.mk qs qts qp) hq1 hq2
 have f1:=fun s=>allF_app (nm:=nm) (oneT nm dcs cl) k (Cn.mk qs qts qp) s
 have o1:cl=kcEq→oneT nm dcs cl k (Cn.mk qs qts qp)=eqT nm qs qts.length dcs.length:=fun h=>if_pos h
 have o2:cl=kcOrd→oneT nm dcs cl k (Cn.mk qs qts qp)=cmpT nm k dcs:=fun h=>by
  unfold oneT
  rw [if_neg (fun q=>kc_ne.1 (q.symm.trans h)),if_pos h]
 have o3:cl=kcShow→oneT nm dcs cl k (Cn.mk qs qts qp)=showT nm (Cn.mk qs qts qp):=fun h=>by
  unfold oneT
  rw [if_neg (fun q=>kc_ne.2.1 (q.symm.trans h)),if_neg (fun q=>kc_ne.2.2.1 (q.symm.trans h)),if_pos h]
 simp only [Cn.s,Cn.ts] at f1 HEk
 generalize argsT nm kX qts.length=aX at *
 generalize eqT nm qs qts.length dcs.length=te at *
 generalize cmpT nm k dcs=tc at *
 generalize showT nm (Cn.mk qs qts qp)=ts at *
 generalize oneT nm dcs cl k (Cn.mk qs qts qp)=one at *
 generalize allF nm (oneT nm dcs cl) k (Cn.mk qs qts qp)=al1 at *
 refine Qe ?_
 refine Q0 ?_;intro c27 h27
 refine Qa ?_
 apply c_joinkm [0,3,6,9,10,11,12,13,14,28,29] (σ:=Unit) (fun zz=>match zz with|z=>[(6,.val (.string (if 0<k then s++⟨#[32,124,32]⟩ else s)))]) (fun zz=>match zz with|z=>True)
 ·repeat' (first|exact Xp|apply Xn rfl|apply Xo rfl)
 ·skip
  obtain ⟨rfl,g27⟩|⟨rfl,g27⟩:=Za h27
  ·refine Qbx ?_
   first
   | exact ⟨(),trivial,Xj rfl (Le.str (if_pos by18).symm) by6,by5⟩
   | exact ⟨(),trivial,Xj rfl (Le.str (if_neg by18).symm) by6,by5⟩
  refine Qbb ?_
  refine QD ?_
  refine Qap ?_
  first
  | exact ⟨(),trivial,Xj rfl (Le.str (if_pos by18).symm) by6,by5⟩
  | exact ⟨(),trivial,Xj rfl (Le.str (if_neg by18).symm) by6,by5⟩
 rintro z hI
 try dsimp only [List.cons_append,List.nil_append] at hI ⊢
 obtain ⟨P,hP⟩:∃ P,(if 0<k then s++⟨#[32,124,32]⟩ else s)=P:=⟨_,rfl⟩
 have hPs:P.size≤s.size+3:=by
  rw [← hP]
  split
  ·rw [ByteArray.size_append];omega
  omega
 rw [hP] at hA ⊢
 have f1:=f1 P
 refine QaS ?_
 refine QbP ?_
 refine Q9 ?_
 refine Qfw ?_
 refine QbB ?_
 refine QaT ?_
 refine Q9 ?_
 refine Qfw ?_
 refine Qfv ?_
 refine Zu 43 Y Y (Ze (xs:=[.tmp 42,.const (.string ⟨#[120]⟩)]) Y Y (HX) by3 ⟨Y,Y⟩) ?_
 refine QbF ?_
 refine QbM ?_
 show AGo _ _ _ _ _ _ _
 refine Qc ?_
 refine QJ ?_
 refine Qa ?_
 refine Qam ?_
 refine Qo ?_
 refine Qas ?_;intro c48 h48
 refine Qf ?_
 obtain ⟨rfl,g48⟩|⟨rfl,g48⟩:=Za h48
 ·refine QH ?_
  refine Qo ?_
  refine Qas ?_;intro c55 h55
  refine Qf ?_
  obtain ⟨rfl,g55⟩|⟨rfl,g55⟩:=Za h55
  ·refine QH ?_
   refine Qo ?_
   refine Qas ?_;intro c62 h62
   refine Qf ?_
   obtain ⟨rfl,g62⟩|⟨rfl,g62⟩:=Za h62
   ·refine Qau ?_
    refine go_blk ?_
    refine Qaq ?_
    first
    |(rw [o1 g48] at f1;exact ⟨(k+1,P++qs++aX++⟨#[32,45,62,32]⟩++te),⟨by show k+1≤dcs.length;omega,by simp only [ByteArray.size_append];omega,by rw [f1] at hA;exact hA,fun q=>absurd q g23.2⟩,by show dcs.length - (k+1)<dcs.length - k;omega,by6,by5⟩)
    |(rw [o2 g55] at f1;exact ⟨(k+1,P++qs++aX++⟨#[32,45,62,32]⟩++tc),⟨by show k+1≤dcs.length;omega,by simp only [ByteArray.size_append];omega,by rw [f1] at hA;exact hA,fun q=>absurd q g23.2⟩,by show dcs.length - (k+1)<dcs.length - k;omega,by6,by5⟩)
    |(rw [o3 g62] at f1;exact ⟨(k+1,P++qs++aX++⟨#[32,45,62,32]⟩++ts),⟨by show k+1≤dcs.length;omega,by simp only [ByteArray.size_append];omega,by rw [f1] at hA;exact hA,fun q=>absurd q g23.2⟩,by show dcs.length - (k+1)<dcs.length - k;omega,by6,by5⟩)
    | exact absurd (name_not g48 g55 g62) g23.2
   refine Qbb ?_
   refine QbK ?_
   refine Qb ?_
   refine Zb 66 Y Y Y (Ze (xs:=[.tmp 64,.tmp 65]) Y Y (HSk) by3 ?_)
   refine QD ?_
   refine Qce ?_
   refine go_blk ?_
   refine Qaq ?_
   first
   |(rw [o1 g48] at f1;exact ⟨(k+1,P++qs++aX++⟨#[32,45,62,32]⟩++te),⟨by show k+1≤dcs.length;omega,by simp only [ByteArray.size_append];omega,by rw [f1] at hA;exact hA,fun q=>absurd q g23.2⟩,by show dcs.length - (k+1)<dcs.length - k;omega,by6,by5⟩)
   |(rw [o2 g55] at f1;exact ⟨(k+1,P++qs++aX++⟨#[32,45,62,32]⟩++tc),⟨by show k+1≤dcs.length;omega,by simp only [ByteArray.size_append];omega,by rw [f1] at hA;exact hA,fun q=>absurd q g23.2⟩,by show dcs.length - (k+1)<dcs.length - k;omega,by6,by5⟩)
   |(rw [o3 g62] at f1;exact ⟨(k+1,P++qs++aX++⟨#[32,45,62,32]⟩++ts),⟨by show k+1≤dcs.length;omega,by simp only [ByteArray.size_append];omega,by rw [f1] at hA;exact hA,fun q=>absurd q g23.2⟩,by show dcs.length - (k+1)<dcs.length - k;omega,by6,by5⟩)
   | exact absurd (name_not g48 g55 g62) g23.2
  refine Qbb ?_
  refine QbK ?_
  refine Qb ?_
  refine Zb 59 Y Y Y (Ze (xs:=[.tmp 57,.tmp 58]) Y Y (HCk) by3 ?_)
  refine QD ?_
  refine Qce ?_
  refine go_blk ?_
  refine Qaq ?_
  first
  |(rw [o1 g48] at f1;exact ⟨(k+1,P++qs++aX++⟨#[32,45,62,32]⟩++te),⟨by show k+1≤dcs.length;omega,by simp only [ByteArray.size_append];omega,by rw [f1] at hA;exact hA,fun q=>absurd q g23.2⟩,by show dcs.length - (k+1)<dcs.length - k;omega,by6,by5⟩)
  |(rw [o2 g55] at f1;exact ⟨(k+1,P++qs++aX++⟨#[32,45,62,32]⟩++tc),⟨by show k+1≤dcs.length;omega,by simp only [ByteArray.size_append];omega,by rw [f1] at hA;exact hA,fun q=>absurd q g23.2⟩,by show dcs.length - (k+1)<dcs.length - k;omega,by6,by5⟩)
  |(rw [o3 g62] at f1;exact ⟨(k+1,P++qs++aX++⟨#[32,45,62,32]⟩++ts),⟨by show k+1≤dcs.length;omega,by simp only [ByteArray.size_append];omega,by rw [f1] at hA;exact hA,fun q=>absurd q g23.2⟩,by show dcs.length - (k+1)<dcs.length - k;omega,by6,by5⟩)
  | exact absurd (name_not g48 g55 g62) g23.2
 refine Qbb ?_
 refine QbK ?_
 refine Qb ?_
 refine Zb 52 Y Y Y (Ze (xs:=[.tmp 50,.tmp 51]) Y Y (HEk) by3 ?_)
 refine QD ?_
 refine Qce ?_
 refine go_blk ?_
 refine Qaq ?_
 first
 |(rw [o1 g48] at f1;exact ⟨(k+1,P++qs++aX++⟨#[32,45,62,32]⟩++te),⟨by show k+1≤dcs.length;omega,by simp only [ByteArray.size_append];omega,by rw [f1] at hA;exact hA,fun q=>absurd q g23.2⟩,by show dcs.length - (k+1)<dcs.length - k;omega,by6,by5⟩)
 |(rw [o2 g55] at f1;exact ⟨(k+1,P++qs++aX++⟨#[32,45,62,32]⟩++tc),⟨by show k+1≤dcs.length;omega,by simp only [ByteArray.size_append];omega,by rw [f1] at hA;exact hA,fun q=>absurd q g23.2⟩,by show dcs.length - (k+1)<dcs.length - k;omega,by6,by5⟩)
 |(rw [o3 g62] at f1;exact ⟨(k+1,P++qs++aX++⟨#[32,45,62,32]⟩++ts),⟨by show k+1≤dcs.length;omega,by simp only [ByteArray.size_append];omega,by rw [f1] at hA;exact hA,fun q=>absurd q g23.2⟩,by show dcs.length - (k+1)<dcs.length - k;omega,by6,by5⟩)
 | exact absurd (name_not g48 g55 g62) g23.2
theorem text_law {nm:Nat→ByteArray} (hnm:NmG nm) (hsz:∀ i,i<8→(nm i).size=1) (a:Int) {cs:List Cn} (h:DtG cs) {cl:ByteArray} (hc:nameT cl≠kE):Parsed a (textT nm cs cl) (if cl=kcEq then eqX nm a cs else if cl=kcOrd then ordX nm a cs else showX nm a cs):=by
 unfold textT
 rw [if_neg hc]
 by_cases h1:cl=kcEq
 ·rw [if_pos h1]
  have e:allT nm (headT cl) (oneT nm cs cl) cs=eqI nm cs:=by
   have e1:headT cl=kHead2:=if_neg (fun q=>kc_ne.2.1 (h1.symm.trans q))
   have e2:oneT nm cs cl=fun _ c=>eqT nm c.s c.ts.length cs.length:=by
    funext k c;exact if_pos h1
   rw [e1,e2];rfl
  rw [e];exact eqI_law hnm hsz a h
 by_cases h2:cl=kcOrd
 ·rw [if_neg h1,if_pos h2]
  have e:allT nm (headT cl) (oneT nm cs cl) cs=ordI nm cs:=by
   have e1:headT cl=kHead2:=if_neg (fun q=>kc_ne.2.2.1 (h2.symm.trans q))
   have e2:oneT nm cs cl=fun i _=>cmpT nm i cs:=by
    funext k c;unfold oneT;rw [if_neg h1,if_pos h2]
   rw [e1,e2];rfl
  rw [e];exact ordI_law hnm hsz a h
 rw [if_neg h1,if_neg h2]
 have h3:cl=kcShow:=Classical.byContradiction fun q=>hc (name_not h1 h2 q)
 have e:allT nm (headT cl) (oneT nm cs cl) cs=showI nm cs:=by
  have e1:headT cl=kHead1:=if_pos h3
  have e2:oneT nm cs cl=fun _ c=>showT nm c:=by
   funext k c;unfold oneT;rw [if_neg h1,if_neg h2,if_pos h3]
  rw [e1,e2];rfl
 rw [e];exact showI_law hnm hsz a h
/- nodes that are not too wide -/
mutual
def Pa.wid:Pa→Prop
 | .mk _ _ _ ks _=>ks.length≤1000∧Pa.wids ks
def Pa.wids:List Pa→Prop
 | []=>True
 | x::l=>x.wid∧Pa.wids l
end
mutual
def Ex.wid:Ex→Prop
 | .mk _ _ _ _ ks al _ _=>ks.length≤1000∧al.length≤1000∧Ex.wids ks∧Al.wids al
def Ex.wids:List Ex→Prop
 | []=>True
 | x::l=>x.wid∧Ex.wids l
def Al.wid:Al→Prop
 | .mk q e=>q.wid∧e.wid
def Al.wids:List Al→Prop
 | []=>True
 | x::l=>x.wid∧Al.wids l
end
theorem Pa.wids_iff:∀ l:List Pa,Pa.wids l↔∀ x∈l,x.wid
 | []=>by rw [Pa.wids];exact ⟨fun _ x h=>by simp at h,fun _=>trivial⟩
 | x::l=>by
  rw [Pa.wids,Pa.wids_iff l]
  exact ⟨fun h y hy=>(List.mem_cons.1 hy).elim (fun e=>e ▸ h.1) (h.2 y),fun h=>⟨h x by19,fun y hy=>h y (by simp [hy])⟩⟩
theorem Ex.wids_iff:∀ l:List Ex,Ex.wids l↔∀ x∈l,x.wid
 | []=>by rw [Ex.wids];exact ⟨fun _ x h=>by simp at h,fun _=>trivial⟩
 | x::l=>by
  rw [Ex.wids,Ex.wids_iff l]
  exact ⟨fun h y hy=>(List.mem_cons.1 hy).elim (fun e=>e ▸ h.1) (h.2 y),fun h=>⟨h x by19,fun y hy=>h y (by simp [hy])⟩⟩
theorem Al.wids_iff:∀ l:List Al,Al.wids l↔∀ x∈l,x.wid
 | []=>by rw [Al.wids];exact ⟨fun _ x h=>by simp at h,fun _=>trivial⟩
 | x::l=>by
  rw [Al.wids,Al.wids_iff l]
  exact ⟨fun h y hy=>(List.mem_cons.1 hy).elim (fun e=>e ▸ h.1) (h.2 y),fun h=>⟨h x by19,fun y hy=>h y (by simp [hy])⟩⟩
theorem Pa.wid_pin (a:Int) (p:Pa):(p.pin a).wid→p.wid:=by
 obtain ⟨k,s,n,ks,pl⟩:=p
 intro h
 rw [Pa.pin,Pa.wid,Pa.pins_map,List.length_map] at h
 rw [Pa.wid,Pa.wids_iff]
 exact ⟨h.1,fun x hx=>Pa.wid_pin a x ((Pa.wids_iff _).1 h.2 _ (List.mem_map_of_mem hx))⟩
termination_by SizeOf.sizeOf p
decreasing_by exact Pa.lt_kid hx
theorem Ex.wid_pin (a:Int) (e:Ex):(e.pin a).wid→e.wid:=by
 obtain ⟨k,s,n,t,ks,al,bs,pl⟩:=e
 intro h
 rw [Ex.pin,Ex.wid,Ex.pins_map,Al.pins_map,List.length_map,List.length_map] at h
 rw [Ex.wid,Ex.wids_iff,Al.wids_iff]
 refine ⟨h.1,h.2.1,fun x hx=>Ex.wid_pin a x ((Ex.wids_iff _).1 h.2.2.1 _ (List.mem_map_of_mem hx)),fun x hx=>?_⟩
 have h2:=(Al.wids_iff _).1 h.2.2.2 _ (List.mem_map_of_mem hx)
 obtain ⟨q,y⟩:=x
 rw [Al.pin,Al.wid] at h2
 rw [Al.wid]
 have hlt:SizeOf.sizeOf y<SizeOf.sizeOf (Ex.mk k s n t ks al bs pl):=Nat.lt_trans (Al.lt_e (.mk q y)) (Ex.lt_alt hx)
 exact ⟨Pa.wid_pin a q h2.1,Ex.wid_pin a y h2.2⟩
termination_by SizeOf.sizeOf e
decreasing_by
 ·exact Ex.lt_kid hx
 exact hlt
theorem wid_node {k:Int} {s:ByteArray} {n a:Int} {ks:List Ex} {al:List Al} (h1:ks.length≤1000) (h2:al.length≤1000) (h3:∀ x∈ks,x.wid) (h4:∀ x∈al,x.wid):(Ex.mk k s n ty0 ks al [] a).wid:=by
 rw [Ex.wid,Ex.wids_iff,Al.wids_iff];exact ⟨h1,h2,h3,h4⟩
theorem Yr (k:Int) (s:ByteArray) (a:Int):(namE k s a).wid:=wid_node by19 by19 by19 by19
theorem wid_two {k:Int} {x y:Ex} {a:Int} (h1:x.wid) (h2:y.wid):(opE k [x,y] a).wid:=wid_node by19 by19 (by
 intro z hz
 simp only [List.mem_cons,List.not_mem_nil,or_false] at hz
 rcases hz with rfl|rfl
 ·exact h1
 exact h2) by19
theorem wid_twoX (a:Int) (f:ByteArray) (i:Nat):(twoX a f i).wid:=wid_two (wid_two (Yr _ _ _) (Yr _ _ _)) (Yr _ _ _)
theorem wid_hat {a:Int} {x y:Ex} (h1:x.wid) (h2:y.wid):(hatE a x y).wid:=wid_two (wid_two (Yr _ _ _) h1) h2
theorem wid_sufX (a:Int):∀ r i,(sufX a i r).wid
 | 0,_=>wid_twoX _ _ _
 | r+1,i=>wid_two (wid_twoX _ _ _) (wid_sufX a r (i+1))
theorem wid_patK (a:Int) (of:ByteArray) (i:Nat):(patK a of i).wid:=by
 unfold patK
 split <;>(rw [Pa.wid,Pa.wids];exact ⟨by simp,trivial⟩)
theorem patL_mem {a:Int} {of:ByteArray} {x:Pa}:∀ {n},x∈patL a of n→∃ i,x=patK a of i
 | 0,h=>by simp [patL] at h
 | n+1,h=>by
  rw [patL] at h
  rcases List.mem_append.1 h with h|h
  ·exact patL_mem h
  rw [List.mem_singleton] at h;exact ⟨n,h⟩
theorem wid_patX (a:Int) (c of:ByteArray) {n:Nat} (h:n≤1000):(patX a c of n).wid:=by
 unfold patX
 rw [Pa.wid,Pa.wids_iff,patL_len]
 refine ⟨h,fun x hx=>?_⟩
 obtain ⟨i,rfl⟩:=patL_mem hx
 exact wid_patK a of i
theorem wid_pat0 (k:Int) (s:ByteArray) (a:Int):(Pa.mk k s 0 [] a).wid:=by rw [Pa.wid,Pa.wids];exact ⟨by simp,trivial⟩
theorem wid_alt {q:Pa} {e:Ex} (h1:q.wid) (h2:e.wid):(Al.mk q e).wid:=by rw [Al.wid];exact ⟨h1,h2⟩
theorem wid_lexX (a:Int):∀ r k,(lexX a r k).wid
 | 0,k=>wid_twoX _ _ _
 | r+1,k=>wid_node by19 by19 (fun x hx=>by rw [List.mem_singleton] at hx;subst hx;exact wid_twoX _ _ _) (fun x hx=>by
  simp only [List.mem_cons,List.not_mem_nil,or_false] at hx
  rcases hx with rfl|rfl
  ·exact wid_alt (wid_pat0 _ _ _) (wid_lexX a r (k+1))
  exact wid_alt (wid_pat0 _ _ _) (Yr _ _ _))
theorem wid_orderX (a:Int) (n:Nat):(orderX a n).wid:=by
 unfold orderX
 split
 ·exact Yr _ _ _
 exact wid_lexX _ _ _
theorem wid_shW (a:Int) (c:ByteArray):∀ r j,(shW a c j r).wid
 | 0,_=>wid_hat (Yr _ _ _) (wid_hat (wid_two (Yr _ _ _) (Yr _ _ _)) (Yr _ _ _))
 | r+1,j=>wid_hat (Yr _ _ _) (wid_hat (wid_two (Yr _ _ _) (Yr _ _ _)) (wid_shW a c r (j+1)))
theorem wid_showXX (a:Int) (c:ByteArray) (n:Nat):(showXX a c n).wid:=by
 unfold showXX shV
 split
 ·exact Yr _ _ _
 split
 ·exact Yr _ _ _
 exact wid_shW _ _ _ _
theorem wid_eqXX (a:Int) (c:ByteArray) {n:Nat} (h:n≤1000) (m:Nat):(eqXX a c n m).wid:=by
 have he:(eqV a n 0).wid:=by
  unfold eqV
  split
  ·exact Yr _ _ _
  exact wid_sufX _ _ _
 unfold eqXX
 refine wid_node by19 (by split <;> simp) (fun x hx=>by rw [List.mem_singleton] at hx;subst hx;exact Yr _ _ _) (fun x hx=>?_)
 rcases List.mem_cons.1 hx with rfl|hx
 ·exact wid_alt (wid_patX a c kY h) he
 split at hx
 ·rw [List.mem_singleton] at hx;subst hx;exact wid_alt (wid_pat0 _ _ _) (Yr _ _ _)
 simp at hx
theorem alF_mem {f:Nat→Cn→Al} {x:Al}:∀ {l:List Cn} {k:Nat},x∈alF f k l→∃ i c,l[i]?=some c∧x=f (k+i) c
 | [],_,h=>by simp [alF] at h
 | c::l,k,h=>by
  rw [alF] at h
  rcases List.mem_cons.1 h with h|h
  ·exact ⟨0,c,Y,h⟩
  obtain ⟨i,d,h1,h2⟩:=alF_mem h
  exact ⟨i+1,d,by simpa using h1,by rw [h2];congr 1;omega⟩
def CnW (cs:List Cn):Prop:=cs.length≤1000∧∀ c∈cs,c.ts.length≤1000
theorem wid_cmpXX (a:Int) (i:Nat) {cs:List Cn} (h:CnW cs):(cmpXX a i cs).wid:=by
 refine wid_node by19 (by rw [alF_len];exact h.1) (fun x hx=>by rw [List.mem_singleton] at hx;subst hx;exact Yr _ _ _) (fun x hx=>?_)
 obtain ⟨j,c,hc,rfl⟩:=alF_mem hx
 have hn:=h.2 c (Xq hc)
 unfold cmpA
 split
 ·exact wid_alt (wid_patX a _ _ hn) (Yr _ _ _)
 split
 ·exact wid_alt (wid_patX a _ _ hn) (wid_orderX _ _)
 exact wid_alt (wid_patX a _ _ hn) (Yr _ _ _)
theorem wid_eachX (a:Int) {F:Nat→Ex} {cs:List Cn} (h:CnW cs) (hF:∀ i c,cs[i]?=some c→(F i).wid):(eachX a F cs).wid:=by
 refine wid_node by19 (by rw [alF_len];exact h.1) (fun x hx=>by rw [List.mem_singleton] at hx;subst hx;exact Yr _ _ _) (fun x hx=>?_)
 obtain ⟨j,c,hc,rfl⟩:=alF_mem hx
 exact wid_alt (wid_patX a _ _ (h.2 c (Xq hc))) (hF _ c (by rw [Nat.zero_add];exact hc))
theorem wid_lamE (a:Int) {e:Ex} (he:e.wid):∀ l,(lamE a l e).wid
 | []=>he
 | n::l=>wid_node by19 by19 (fun x hx=>by rw [List.mem_singleton] at hx;subst hx;exact wid_lamE a he l) by19
theorem bindX_wid {a:Int} {cs:List Cn} (h:CnW cs) {cl nm:ByteArray} {e:Ex} (hb:bindX a cs cl=some (nm,e)):e.wid:=by
 unfold bindX at hb
 split at hb
 ·cases hb
  refine wid_lamE a (wid_eachX a h (fun i c hc=>?_)) _
  simp only [hc];exact wid_eqXX a _ (h.2 c (Xq hc)) _
 split at hb
 ·cases hb
  exact wid_lamE a (wid_eachX a h (fun i c hc=>wid_cmpXX a i h)) _
 split at hb
 ·cases hb
  refine wid_lamE a (wid_eachX a h (fun i c hc=>?_)) _
  simp only [hc];exact wid_showXX a _ _
 simp at hb
end Go.Proofs.YtefbicnoddggnaaGreat
namespace Go.Proofs.YtefbicnoddggnaaGreat
theorem lexF_len:∀ (f:Nat) (i:Int) (l:List Nat) (acc:List Tok),(lexF f i l acc).1.length≤acc.length+l.length+1
 | 0,i,[],acc=>by rw [lexF_nil];simp
 | 0,i,_::_,acc=>by simp [lexF]
 | f+1,i,[],acc=>by rw [lexF_nil];simp
 | f+1,i,c::l,acc=>by
  by_cases h:(oneL i (c::l)).2.2≠0
  ·rw [lexF_bad h];simp
  have h:=Classical.not_not.1 h
  rw [lexF_go h]
  obtain ⟨h1,h2⟩:=oneL_le i c l h
  have:=lexF_len f ((oneL i (c::l)).2.1+ovr false ((c::l).drop ((oneL i (c::l)).2.1 - i).toNat)) (((c::l).drop ((oneL i (c::l)).2.1 - i).toNat).drop (ovr false ((c::l).drop ((oneL i (c::l)).2.1 - i).toNat))) (acc++[(oneL i (c::l)).1])
  simp only [List.length_append,List.length_drop,List.length_cons,List.length_nil] at this ⊢
  omega
theorem scanT_len (s:ByteArray):(scanT s).1.length≤60001:=by
 unfold scanT
 split
 ·simp
 split
 ·simp
 have h:=lexF_len (s.size+1) (ovr false (rst s 0)) ((rst s 0).drop (ovr false (rst s 0))) []
 rw [List.length_drop,rst_len] at h
 simp only [List.length_nil] at h
 omega
open Go.RowKit
theorem begin_c (s:ByteArray):ACall Tryz.prog 12 [.val (.string s)] [] (fun v M'=>∃ b,v=.ptr b 0∧M'=[.loc b (psC (scanT s).1 (beginP (scanT s)))]):=by
 have HS:=Scan_c s
 obtain ⟨⟨L,e,w⟩,hs⟩:∃ r,scanT s=r:=⟨_,rfl⟩
 rw [hs] at HS ⊢
 have HF:=fun b=>fail_c b L ⟨0,0,0,0⟩ e w
 unfold beginP
 simp only [scanR] at HS ⊢
 refine Zc Tryz.func12 Y (by kernel_rfl) Y (Xm Y) ?_
 refine Qcp ?_
 refine Zb 9 Y Y Y (Ze (xs:=[.tmp 8]) Y Y (HS) by3 ?_)
 refine Qbf ?_
 refine Qb2 ?_
 refine Qa3 ?_
 refine Qav ?_
 refine QJ ?_
 refine Zb 14 Y Y Y (Zk (ns:=[0]) (xs:=[.tmp 13]) Y tz_70 Y tfl_70 Y Y Y Y (Zb 15 Y Y Y (op_boxe (cs':=[_,_,_,_,_]) Y Y Y Y ?_)));intro b15
 refine Qcs ?_
 refine Qao ?_;intro c17 h17
 refine Qa ?_
 obtain ⟨rfl,g17⟩|⟨rfl,g17⟩:=Za h17
 ·refine QY ?_
  refine Qs ?_
  first
  |(rw [if_pos g17];exact Zg rfl rfl (Xg _) (Xf rfl) ⟨b15,rfl,rfl⟩)
  |(rw [if_neg g17];exact Zg rfl rfl (Xg _) (Xf rfl) ⟨b15,rfl,rfl⟩)
 refine Qh ?_
 refine QF ?_
 refine Qb ?_
 refine Zb 21 Y Y Y (Zf (xs:=[.tmp 18,.tmp 19,.tmp 20]) (i:=0) Y Y Y (HF b15) by3 ?_)
 refine Qt ?_
 refine Qs ?_
 first
 |(rw [if_pos g17];exact Zg rfl rfl (Xg _) (Xf rfl) ⟨b15,rfl,rfl⟩)
 |(rw [if_neg g17];exact Zg rfl rfl (Xg _) (Xf rfl) ⟨b15,rfl,rfl⟩)
theorem progL_end {L:List Tok} {f:Nat} {p:PS} {x:Pg} (h:p.e≠0∨(nxt L p).k=0):progL L f p x=(x,p):=by
 cases f with
 | zero=>rfl
 | succ f=>rw [progL,if_pos h]
theorem Da.cellss_app' (a b:List Da):Da.cellss (a++b)=Da.cellss a++Da.cellss b:=by simp [Da.cellss]
theorem Cl.cellss_app' (a b:List Cl):Cl.cellss (a++b)=Cl.cellss a++Cl.cellss b:=by simp [Cl.cellss]
theorem In.cellss_app' (a b:List In):In.cellss (a++b)=In.cellss a++In.cellss b:=by simp [In.cellss]
abbrev zPg:List AV:=[.val (.slice none 0 0),.val (.slice none 0 0),.val (.slice none 0 0),.val (.slice none 0 0)]
def progR (o:Pg × Int × Int):AV:=.tup [.agg o.1.cells,.val (.int .i64 o.2.1),.val (.int .i64 o.2.2)]
theorem begin_ok (s:ByteArray):POk (scanT s).1 302 (beginP (scanT s)):=by
 have h:∀ e w,POk (scanT s).1 302 (failP ⟨0,0,0,0⟩ e w):=fun e w=>by
  unfold failP
  refine ⟨?_,?_,?_,fun _=>⟨?_,?_⟩⟩ <;> simp
 unfold beginP
 split
 ·exact h _ _
 refine ⟨?_,?_,?_,fun _=>⟨?_,?_⟩⟩ <;> simp
theorem Prog_c (s:ByteArray):PCall Tryz.prog 5 [.val (.string s)] (progR (progT s)):=by
 have HB:=begin_c s
 have hL:=scanT_len s
 have k0:=begin_ok s
 obtain ⟨r,hr⟩:∃ r,progT s=r:=⟨_,rfl⟩
 rw [hr]
 unfold progT at hr
 simp only [] at hr
 obtain ⟨L,hLe⟩:∃ L,(scanT s).1=L:=⟨_,rfl⟩
 obtain ⟨p0,hp0⟩:∃ p,beginP (scanT s)=p:=⟨_,rfl⟩
 rw [hLe,hp0] at HB k0 hr
 rw [hLe] at hL
 have hL:L.length≤100000:=by omega
 obtain ⟨⟨⟨fd,fc,fi,fb⟩,p9⟩,e9⟩:∃ r,progL L (L.length+1) p0 pg0=r:=⟨_,rfl⟩
 rw [e9] at hr
 simp only [] at hr
 refine Zc Tryz.func5 Y (by kernel_rfl) Y (Xm Y) ?_
 refine Qn ?_
 refine QbA ?_;intro b2
 refine Qav ?_
 refine QJ ?_
 refine Zb 8 Y Y Y (op_callat [] (xs:=[.tmp 7]) Y Y Y (HB) by3 ?_)
 rintro v M' ⟨b,rfl,rfl⟩
 refine Qf ?_
 refine Qo ?_
 refine Zb 9 Y Y Y (Zk (ns:=[]) (xs:=[]) Y tz_28 Y tfl_28 Y Y Y Y ?_)
 refine QbA ?_;intro b6
 refine Qdc ?_
 refine Qbh ?_
 refine Yb 34 5 (Yb 77 6 (Yb 49 8 (Yb 60 13 ?_)))
 apply Ye (rg [(0,2),(7,52)]) (σ:=PS × Nat × Pg × Value × Value × Value × Value) (fun zz=>match zz with|(q,f,Pg.mk da cl ins bs,u1,u2,u3,u4)=>[]) (fun zz=>match zz with|(q,f,Pg.mk da cl ins bs,u1,u2,u3,u4)=>[.loc b6 [.own u1 5 (Da.cellss da),.own u2 6 (Cl.cellss cl),.own u3 8 (In.cellss ins),.own u4 13 (Bi.cellss bs)],.loc b (psC L q),.loc b2 zPg,.own 34 5 u1,.own 77 6 u2,.own 49 8 u3,.own 60 13 u4]) (fun zz=>match zz with|(q,f,Pg.mk da cl ins bs,u1,u2,u3,u4)=>POk L 302 q∧(q.e=0→L.length - q.at_<f∧da.length+cl.length+ins.length+bs.length≤q.at_)∧progL L f q (Pg.mk da cl ins bs)=(Pg.mk fd fc fi fb,p9)) (fun zz=>match zz with|(q,f,Pg.mk da cl ins bs,u1,u2,u3,u4)=>f) ((p0,L.length+1,Pg.mk [] [] [] [],.slice none 0 0,.slice none 0 0,.slice none 0 0,.slice none 0 0))
 ·repeat' (first|exact Xp|apply Xn rfl|apply Xo rfl)
 ·exact ⟨k0,fun _=>⟨by omega,Nat.zero_le _⟩,e9⟩
 ·exact by6
 ·exact (Xe _ (Xi (Le.nilOwn 5) (Xi (Le.nilOwn 6) (Xi (Le.nilOwn 8) (Xi (Le.nilOwn 13) (Xh _))))) (Xf Y))
 rintro ⟨q,f,⟨da,cl,ins,bs⟩,u1,u2,u3,u4⟩ hI
 try dsimp only [List.cons_append,List.nil_append] at hI ⊢
 obtain ⟨i1,i2,hu⟩:=hI
 have hq1:=i1.1
 have HN:=next_c b L q
 have hend:=fun h=>progL_end (L:=L) (f:=f) (p:=q) (x:=Pg.mk da cl ins bs) h
 obtain ⟨⟨qk,qt,qn,qa⟩,hqt⟩:∃ t,nxt L q=t:=⟨_,rfl⟩
 have hgo:∀ f x,q.e=0→qk≠0→progL L (f+1) q x=progL L f (takeP L (declP L q x).2 7 kSemi).2 (declP L q x).1:=fun f x h1 h2=>by
  rw [progL,hqt,if_neg (fun h=>by rcases h with h|h;exact h h1;exact h2 h)]
 rw [hqt] at HN hend
 simp only [Tok.av] at HN hend
 refine QL ?_
 refine Zx 20 (q.e=0∧qk≠0) ?_ _ _ Y ?_
 ·skip
  refine Qb ?_
  refine Qah ?_
  refine Qbj ?_
  refine Qj ?_;intro c14 h14
  refine Qb ?_
  obtain ⟨rfl,g14⟩|⟨rfl,g14⟩:=Za h14
  ·skip
   refine Qm ?_
   refine Qg ?_
   refine Xk Y ?_ by7 by5
   clear HN hend hgo HB;first|(simp_all;done)|grind
  skip
  refine Qd ?_
  refine Zm 17 Y Y Y Y Y (Yi (xs:=[.tmp 16]) [1] Y Y Y (HN) by3 ?_)
  refine Zm 18 Y Y Y Y Y (op_field1 (ft:=3) (fo:=0) Y (by kernel_rfl) ta_3 Y Y ?_)
  refine QaD ?_;intro c19 h19
  refine Qg ?_
  refine Xk Y ?_ by7 by5
  clear HN hend hgo HB;first|(simp_all;done)|grind
 intro c20 h20
 refine Qc ?_
 obtain ⟨rfl,g20⟩|⟨rfl,g20⟩:=Za h20
 ·refine Qbp ?_
  have hx2:q.e≠0∨qk=0:=by
   rcases Classical.em (q.e=0) with h|h
   ·exact .inr (Classical.not_not.1 fun h2=>g20 ⟨h,h2⟩)
   exact .inl h
  rw [hend hx2] at hu
  cases hu
  refine Qe ?_
  refine Qcy ?_;intro c63 h63
  refine Qa ?_
  obtain ⟨rfl,g63⟩|⟨rfl,g63⟩:=Za h63
  ·refine Qbg ?_
   refine QdT ?_
   refine QdU ?_
   refine Qbv ?_
   rw [if_neg g63] at hr;subst hr;exact Zt (i:=2) rfl rfl rfl rfl rfl ta_28 rfl by2 (Xb _) ⟨rfl,rfl⟩
  refine QaG ?_
  refine Ya [0,1,2,3,4,5,6,7,8,9,10,11] [9] [[],[],[1],[1,2],[1,2,3],[],[5],[5,6],[5,6,7],[0],[0,1,2,3,4,9],[0,1,2,3,4,5,6,7,8,9,10]] tmix Y (Zh 64 (none) (i:=0) Y Y Y Y Y (Zk (ns:=[]) (xs:=[]) Y tz_28 Y tfl_28 Y Y Y Y ⟨Y,Y⟩) ?_)
  refine Qp ?_
  refine QdH ?_
  refine Qcw ?_
  refine Qp ?_
  refine QdH ?_
  refine Qcw ?_
  refine Zs 2 (i:=9) Y Y Y Y Y (Zi (cs':=[_,_,_,_]) (i:=0) Y ts_28 Y Y Y Y Y (Xm Y) Y ⟨_,Y,?_⟩)
  refine Qbu ?_
  refine Qbu ?_
  show AGo _ _ _ _ _ _ _
  refine QX ?_
  rw [if_pos g63] at hr;subst hr;exact Zt (i:=2) rfl rfl rfl rfl rfl ta_28 rfl by2 (Xb _) ⟨rfl,rfl⟩
 refine Qab ?_
 refine QL ?_
 obtain ⟨i3,i4⟩:=i2 g20.1
 have hl1:(Da.cellss da).length≤200000:=by rw [Da.cellss_len];omega
 have hl2:(Cl.cellss cl).length≤200000:=by rw [Cl.cellss_len];omega
 have hl3:(In.cellss ins).length≤200000:=by rw [In.cellss_len];omega
 have hl4:(Bi.cellss bs).length≤200000:=by rw [Bi.cellss_len];omega
 obtain ⟨f,rfl⟩:∃ f',f=f'+1:=⟨f - 1,by omega⟩
 rw [hgo f _ g20.1 g20.2] at hu
 have l2:=(decl_adv (Pg.mk da cl ins bs) i1).ok i1
 have b2':=(decl_adv (Pg.mk da cl ins bs) i1).1
 obtain ⟨⟨x,q2⟩,hx⟩:∃ r,declP L q (Pg.mk da cl ins bs)=r:=⟨_,rfl⟩
 have hx0:=hx
 unfold declP at hx
 rw [hx0] at hu l2 b2'
 simp only [Pg.da,Pg.cl,Pg.ins,Pg.bs] at hu l2 b2' hx
 have HS:=take_c b L hL q2 l2.1 7 kSemi
 have hpr:=take_prog (L:=L) (p:=q2) (kind:=7) (s:=kSemi) by17
 have l5:=(Zj (kind:=7) (s:=kSemi) by17 l2).ok l2
 obtain ⟨⟨u6,q5⟩,f5⟩:∃ r,takeP L q2 7 kSemi=r:=⟨_,rfl⟩
 rw [f5] at HS hpr l5 hu
 simp only [Prod.mk.injEq] at HS hpr l5 hu
 refine Qe ?_
 refine Zb 22 Y Y Y (op_mayc (xs:=[.tmp 21,.const (.string ⟨#[100,97,116,97]⟩)]) (i:=1) Y Y Y (may_c b L hL q kData) by3 ?_ ?_)
 ·intro g22
  refine Qb1 ?_
  rw [if_pos g22] at hx
  have HX:=data_c b L hL (stepP q) ((Zw i1 g22).ok i1)
  obtain ⟨⟨⟨xs,xps,xcs,xdv,xp⟩,q3⟩,e3⟩:∃ r,dataP L (stepP q)=r:=⟨_,rfl⟩
  rw [e3] at HX hx
  cases hx
  refine Qby ?_
  refine Zs 1 (i:=3) Y Y Y Y Y (Zf (xs:=[.tmp 25]) (i:=0) Y Y Y (HX) by3 ⟨_,Y,?_⟩)
  refine Zh 27 (none) (i:=4) Y Y Y Y Y (Zd (xs:=[.tmp 26]) el_23 Y Y Y Y Y Y (Xm Y) ⟨Y,Y⟩) ?_
  refine Zs 3 (i:=5) Y Y Y Y Y (Zr (i:=0) el_23 Y Y Y Y (.seq _ _) by8 (fun u28=>⟨_,Y,?_⟩))
  refine QB ?_
  refine Qeo ?_
  show AGo _ _ _ _ _ _ _
  refine Qc ?_
  refine Qe ?_
  refine Zb 58 Y Y Y (Zf (xs:=[.tmp 57,.const (.int .i64 7),.const (.string ⟨#[59]⟩)]) (i:=1) Y Y Y (HS) by3 ?_)
  refine Qa1 ?_
  first
  | exact ⟨(q5,f,Pg.mk (da++[Da.mk xs xps xcs xdv xp]) cl ins bs,u28,u2,u3,u4),⟨l5,(fun e=>by obtain ⟨⟨_,h5⟩,_,h6⟩:=hpr e;have b3:q.at_≤q3.at_:=b2';rw [h5];simp only [stepP,List.length_append,List.length_singleton];omega),hu⟩,Nat.lt_succ_self f,by6,(Xe _ (Xi (Xl (by rw [Da.cellss_app'];rfl)) (Xh _)) (Xf rfl))⟩
  | exact ⟨(q5,f,Pg.mk da (cl++[Cl.mk xs xv xsu xms xds xp]) ins bs,u1,u37,u3,u4),⟨l5,(fun e=>by obtain ⟨⟨_,h5⟩,_,h6⟩:=hpr e;have b3:q.at_≤q3.at_:=b2';rw [h5];simp only [stepP,List.length_append,List.length_singleton];omega),hu⟩,Nat.lt_succ_self f,by6,(Xe _ (Xi (Xg _) (Xi (Xl (by rw [Cl.cellss_app'];rfl)) (Xh _))) (Xf rfl))⟩
  | exact ⟨(q5,f,Pg.mk da cl (ins++[In.mk xc (Ty.mk xhk xhs xhn xhl) xcx xbs xp]) bs,u1,u2,u46,u4),⟨l5,(fun e=>by obtain ⟨⟨_,h5⟩,_,h6⟩:=hpr e;have b3:q.at_≤q3.at_:=b2';rw [h5];simp only [stepP,List.length_append,List.length_singleton];omega),hu⟩,Nat.lt_succ_self f,by6,(Xe _ (Xi (Xg _) (Xi (Xg _) (Xi (Xl (by rw [In.cellss_app'];rfl)) (Xh _)))) (Xf rfl))⟩
  | exact ⟨(q5,f,Pg.mk da cl ins (bs++[Bi.mk bn (Ex.mk xk xs xn (Ty.mk xtk xts xtn xtl) xks xal xbs xp) bp]),u1,u2,u3,u55),⟨l5,(fun e=>by obtain ⟨⟨_,h5⟩,_,h6⟩:=hpr e;have b3:q.at_≤q3.at_:=b2';rw [h5];simp only [stepP,List.length_append,List.length_singleton];omega),hu⟩,Nat.lt_succ_self f,by6,(Xe _ (Xi (Xg _) (Xi (Xg _) (Xi (Xg _) (Xi (Xl by11) (Xh _))))) (Xf rfl))⟩
 intro g22
 refine Qa ?_
 refine QH ?_
 refine QJ ?_
 refine Zb 31 Y Y Y (op_mayc (xs:=[.tmp 30,.const (.string ⟨#[99,108,97,115,115]⟩)]) (i:=1) Y Y Y (may_c b L hL q kClass) by3 ?_ ?_)
 ·intro g31
  refine Qb1 ?_
  rw [if_neg g22,if_pos g31] at hx
  have HX:=class_c b L hL (stepP q) ((Zw i1 g31).ok i1)
  obtain ⟨⟨⟨xs,xv,xsu,xms,xds,xp⟩,q3⟩,e3⟩:∃ r,classP L (stepP q)=r:=⟨_,rfl⟩
  rw [e3] at HX hx
  cases hx
  refine Qby ?_
  refine Zs 1 (i:=3) Y Y Y Y Y (Zf (xs:=[.tmp 34]) (i:=0) Y Y Y (HX) by3 ⟨_,Y,?_⟩)
  refine Zh 36 (none) (i:=4) Y Y Y Y Y (Zd (xs:=[.tmp 35]) el_24 Y Y Y Y Y Y (Xm Y) ⟨Y,Y⟩) ?_
  refine Zs 4 (i:=5) Y Y Y Y Y (Zr (i:=0) el_24 Y Y Y Y (.seq _ _) by8 (fun u37=>⟨_,Y,?_⟩))
  refine QB ?_
  refine Zs 0 (i:=7) Y Y Y Y Y (Zi (cs':=[_,_,_,_]) (i:=0) Y ts_24 Y Y Y Y Y (Xm Y) Y ⟨_,Y,?_⟩)
  show AGo _ _ _ _ _ _ _
  refine Qc ?_
  refine Qe ?_
  refine Zb 58 Y Y Y (Zf (xs:=[.tmp 57,.const (.int .i64 7),.const (.string ⟨#[59]⟩)]) (i:=1) Y Y Y (HS) by3 ?_)
  refine Qa1 ?_
  first
  | exact ⟨(q5,f,Pg.mk (da++[Da.mk xs xps xcs xdv xp]) cl ins bs,u28,u2,u3,u4),⟨l5,(fun e=>by obtain ⟨⟨_,h5⟩,_,h6⟩:=hpr e;have b3:q.at_≤q3.at_:=b2';rw [h5];simp only [stepP,List.length_append,List.length_singleton];omega),hu⟩,Nat.lt_succ_self f,by6,(Xe _ (Xi (Xl (by rw [Da.cellss_app'];rfl)) (Xh _)) (Xf rfl))⟩
  | exact ⟨(q5,f,Pg.mk da (cl++[Cl.mk xs xv xsu xms xds xp]) ins bs,u1,u37,u3,u4),⟨l5,(fun e=>by obtain ⟨⟨_,h5⟩,_,h6⟩:=hpr e;have b3:q.at_≤q3.at_:=b2';rw [h5];simp only [stepP,List.length_append,List.length_singleton];omega),hu⟩,Nat.lt_succ_self f,by6,(Xe _ (Xi (Xg _) (Xi (Xl (by rw [Cl.cellss_app'];rfl)) (Xh _))) (Xf rfl))⟩
  | exact ⟨(q5,f,Pg.mk da cl (ins++[In.mk xc (Ty.mk xhk xhs xhn xhl) xcx xbs xp]) bs,u1,u2,u46,u4),⟨l5,(fun e=>by obtain ⟨⟨_,h5⟩,_,h6⟩:=hpr e;have b3:q.at_≤q3.at_:=b2';rw [h5];simp only [stepP,List.length_append,List.length_singleton];omega),hu⟩,Nat.lt_succ_self f,by6,(Xe _ (Xi (Xg _) (Xi (Xg _) (Xi (Xl (by rw [In.cellss_app'];rfl)) (Xh _)))) (Xf rfl))⟩
  | exact ⟨(q5,f,Pg.mk da cl ins (bs++[Bi.mk bn (Ex.mk xk xs xn (Ty.mk xtk xts xtn xtl) xks xal xbs xp) bp]),u1,u2,u3,u55),⟨l5,(fun e=>by obtain ⟨⟨_,h5⟩,_,h6⟩:=hpr e;have b3:q.at_≤q3.at_:=b2';rw [h5];simp only [stepP,List.length_append,List.length_singleton];omega),hu⟩,Nat.lt_succ_self f,by6,(Xe _ (Xi (Xg _) (Xi (Xg _) (Xi (Xg _) (Xi (Xl by11) (Xh _))))) (Xf rfl))⟩
 intro g31
 refine Qa ?_
 refine QH ?_
 refine QJ ?_
 refine Zb 40 Y Y Y (op_mayc (xs:=[.tmp 39,.const (.string ⟨#[105,110,115,116,97,110,99,101]⟩)]) (i:=1) Y Y Y (may_c b L hL q kInst) by3 ?_ ?_)
 ·intro g40
  refine Qb1 ?_
  rw [if_neg g22,if_neg g31,if_pos g40] at hx
  have HX:=inst_c b L hL (stepP q) ((Zw i1 g40).ok i1)
  obtain ⟨⟨⟨xc,⟨xhk,xhs,xhn,xhl⟩,xcx,xbs,xp⟩,q3⟩,e3⟩:∃ r,instP L (stepP q)=r:=⟨_,rfl⟩
  rw [e3] at HX hx
  simp only [In.cells,Ty.cells,List.cons_append,List.nil_append] at HX
  cases hx
  refine Qby ?_
  refine Zs 1 (i:=3) Y Y Y Y Y (Zf (xs:=[.tmp 43]) (i:=0) Y Y Y (HX) by3 ⟨_,Y,?_⟩)
  refine Zh 45 (none) (i:=4) Y Y Y Y Y (Zd (xs:=[.tmp 44]) el_25 Y Y Y Y Y Y (Xm Y) ⟨Y,Y⟩) ?_
  refine Zs 5 (i:=5) Y Y Y Y Y (Zr (i:=0) el_25 Y Y Y Y (.seq _ _) by8 (fun u46=>⟨_,Y,?_⟩))
  refine QB ?_
  refine Qep ?_
  show AGo _ _ _ _ _ _ _
  refine Qc ?_
  refine Qe ?_
  refine Zb 58 Y Y Y (Zf (xs:=[.tmp 57,.const (.int .i64 7),.const (.string ⟨#[59]⟩)]) (i:=1) Y Y Y (HS) by3 ?_)
  refine Qa1 ?_
  first
  | exact ⟨(q5,f,Pg.mk (da++[Da.mk xs xps xcs xdv xp]) cl ins bs,u28,u2,u3,u4),⟨l5,(fun e=>by obtain ⟨⟨_,h5⟩,_,h6⟩:=hpr e;have b3:q.at_≤q3.at_:=b2';rw [h5];simp only [stepP,List.length_append,List.length_singleton];omega),hu⟩,Nat.lt_succ_self f,by6,(Xe _ (Xi (Xl (by rw [Da.cellss_app'];rfl)) (Xh _)) (Xf rfl))⟩
  | exact ⟨(q5,f,Pg.mk da (cl++[Cl.mk xs xv xsu xms xds xp]) ins bs,u1,u37,u3,u4),⟨l5,(fun e=>by obtain ⟨⟨_,h5⟩,_,h6⟩:=hpr e;have b3:q.at_≤q3.at_:=b2';rw [h5];simp only [stepP,List.length_append,List.length_singleton];omega),hu⟩,Nat.lt_succ_self f,by6,(Xe _ (Xi (Xg _) (Xi (Xl (by rw [Cl.cellss_app'];rfl)) (Xh _))) (Xf rfl))⟩
  | exact ⟨(q5,f,Pg.mk da cl (ins++[In.mk xc (Ty.mk xhk xhs xhn xhl) xcx xbs xp]) bs,u1,u2,u46,u4),⟨l5,(fun e=>by obtain ⟨⟨_,h5⟩,_,h6⟩:=hpr e;have b3:q.at_≤q3.at_:=b2';rw [h5];simp only [stepP,List.length_append,List.length_singleton];omega),hu⟩,Nat.lt_succ_self f,by6,(Xe _ (Xi (Xg _) (Xi (Xg _) (Xi (Xl (by rw [In.cellss_app'];rfl)) (Xh _)))) (Xf rfl))⟩
  | exact ⟨(q5,f,Pg.mk da cl ins (bs++[Bi.mk bn (Ex.mk xk xs xn (Ty.mk xtk xts xtn xtl) xks xal xbs xp) bp]),u1,u2,u3,u55),⟨l5,(fun e=>by obtain ⟨⟨_,h5⟩,_,h6⟩:=hpr e;have b3:q.at_≤q3.at_:=b2';rw [h5];simp only [stepP,List.length_append,List.length_singleton];omega),hu⟩,Nat.lt_succ_self f,by6,(Xe _ (Xi (Xg _) (Xi (Xg _) (Xi (Xg _) (Xi (Xl by11) (Xh _))))) (Xf rfl))⟩
 intro g40
 refine Qa ?_
 refine QH ?_
 refine QG ?_
 rw [if_neg g22,if_neg g31,if_neg g40] at hx
 have HD:=take_c b L hL q hq1 6 kDef
 have l1:=(Zj (kind:=6) (s:=kDef) by17 i1).ok i1
 obtain ⟨⟨u7,q1⟩,f1⟩:∃ r,takeP L q 6 kDef=r:=⟨_,rfl⟩
 rw [f1] at HD l1 hx
 simp only [] at HD l1 hx
 have HX:=bindP_c b L hL q1 l1
 obtain ⟨⟨⟨bn,⟨xk,xs,xn,⟨xtk,xts,xtn,xtl⟩,xks,xal,xbs,xp⟩,bp⟩,q3⟩,e3⟩:∃ r,bindP L q1=r:=⟨_,rfl⟩
 rw [e3] at HX hx
 simp only [Bi.cells,Ex.cells,Ty.cells,List.cons_append,List.nil_append] at HX
 cases hx
 refine Qe ?_
 refine Zb 49 Y Y Y (Zf (xs:=[.tmp 48,.const (.int .i64 6),.const (.string ⟨#[100,101,102]⟩)]) (i:=1) Y Y Y (HD) by3 ?_)
 refine Qa ?_
 refine Qby ?_
 refine Zs 1 (i:=3) Y Y Y Y Y (Zf (xs:=[.tmp 52]) (i:=0) Y Y Y (HX) by3 ⟨_,Y,?_⟩)
 refine Zh 54 (none) (i:=4) Y Y Y Y Y (Zd (xs:=[.tmp 53]) el_26 Y Y Y Y Y Y (Xm Y) ⟨Y,Y⟩) ?_
 refine Zs 6 (i:=5) Y Y Y Y Y (Zr (i:=0) el_26 Y Y Y Y (.seq _ _) by8 (fun u55=>⟨_,Y,?_⟩))
 refine QB ?_
 refine Zs 0 (i:=7) Y Y Y Y Y (Zi (cs':=[_,_,_,_]) (i:=0) Y ts_26 Y Y Y Y Y (Xm Y) Y ⟨_,Y,?_⟩)
 show AGo _ _ _ _ _ _ _
 refine Qc ?_
 refine Qe ?_
 refine Zb 58 Y Y Y (Zf (xs:=[.tmp 57,.const (.int .i64 7),.const (.string ⟨#[59]⟩)]) (i:=1) Y Y Y (HS) by3 ?_)
 refine Qa1 ?_
 first
 | exact ⟨(q5,f,Pg.mk (da++[Da.mk xs xps xcs xdv xp]) cl ins bs,u28,u2,u3,u4),⟨l5,(fun e=>by obtain ⟨⟨_,h5⟩,_,h6⟩:=hpr e;have b3:q.at_≤q3.at_:=b2';rw [h5];simp only [stepP,List.length_append,List.length_singleton];omega),hu⟩,Nat.lt_succ_self f,by6,(Xe _ (Xi (Xl (by rw [Da.cellss_app'];rfl)) (Xh _)) (Xf rfl))⟩
 | exact ⟨(q5,f,Pg.mk da (cl++[Cl.mk xs xv xsu xms xds xp]) ins bs,u1,u37,u3,u4),⟨l5,(fun e=>by obtain ⟨⟨_,h5⟩,_,h6⟩:=hpr e;have b3:q.at_≤q3.at_:=b2';rw [h5];simp only [stepP,List.length_append,List.length_singleton];omega),hu⟩,Nat.lt_succ_self f,by6,(Xe _ (Xi (Xg _) (Xi (Xl (by rw [Cl.cellss_app'];rfl)) (Xh _))) (Xf rfl))⟩
 | exact ⟨(q5,f,Pg.mk da cl (ins++[In.mk xc (Ty.mk xhk xhs xhn xhl) xcx xbs xp]) bs,u1,u2,u46,u4),⟨l5,(fun e=>by obtain ⟨⟨_,h5⟩,_,h6⟩:=hpr e;have b3:q.at_≤q3.at_:=b2';rw [h5];simp only [stepP,List.length_append,List.length_singleton];omega),hu⟩,Nat.lt_succ_self f,by6,(Xe _ (Xi (Xg _) (Xi (Xg _) (Xi (Xl (by rw [In.cellss_app'];rfl)) (Xh _)))) (Xf rfl))⟩
 | exact ⟨(q5,f,Pg.mk da cl ins (bs++[Bi.mk bn (Ex.mk xk xs xn (Ty.mk xtk xts xtn xtl) xks xal xbs xp) bp]),u1,u2,u3,u55),⟨l5,(fun e=>by obtain ⟨⟨_,h5⟩,_,h6⟩:=hpr e;have b3:q.at_≤q3.at_:=b2';rw [h5];simp only [stepP,List.length_append,List.length_singleton];omega),hu⟩,Nat.lt_succ_self f,by6,(Xe _ (Xi (Xg _) (Xi (Xg _) (Xi (Xg _) (Xi (Xl by11) (Xh _))))) (Xf rfl))⟩
theorem pinPat_c (a:Int) (p:Pa):p.wid→PCall Tryz.prog 83 [.agg p.cells,.val (.int .i64 a)] (.agg (p.pin a).cells):=by
 obtain ⟨pk,ps,pn,ks,pp⟩:=p
 intro hw
 rw [Pa.wid,Pa.wids_iff] at hw
 obtain ⟨hw1,hw2⟩:=hw
 have IH:∀ x∈ks,PCall Tryz.prog 83 [.agg x.cells,.val (.int .i64 a)] (.agg (x.pin a).cells):=fun x hx=>pinPat_c a x (hw2 x hx)
 have hl:=Pa.cellss_len ks
 rw [Pa.pin,Pa.pins_map]
 clear hw2
 refine Zc Tryz.func83 Y (by kernel_rfl) Y (Xm Y) ?_
 refine Qn ?_
 refine QaU ?_
 refine QaV ?_;intro b4
 refine QA ?_
 refine QbC ?_
 refine Qay ?_
 refine Zb 14 Y Y Y (Zk (ns:=[0,1,2,4]) (xs:=[.tmp 8,.tmp 10,.tmp 12,.tmp 13]) (cs':=[_,_,_,_,_]) Y tz_63 Y tfl_63 Y Y Y Y ?_)
 refine QaV ?_;intro b5
 refine QbI ?_
 refine Qv ?_
 refine Q3 ?_
 refine Yb 63 5 ?_
 apply Ye (rg [(0,1),(3,1),(6,28)]) (σ:=Nat × Value) (fun zz=>match zz with|(i,u)=>[(6,.val (.int .i64 i))]) (fun zz=>match zz with|(i,u)=>[.loc b5 [.val (.int .i64 pk),.val (.string ps),.val (.int .i64 pn),.own u 5 (Pa.cellss ((ks.take i).map (Pa.pin a))),.val (.int .i64 a)],.loc b4 zPaC,.own 63 5 u]) (fun zz=>match zz with|(i,u)=>i≤ks.length) (fun zz=>match zz with|(i,u)=>ks.length - i) ((0,.slice none 0 0))
 ·repeat' (first|exact Xp|apply Xn rfl|apply Xo rfl)
 ·exact Nat.zero_le _
 ·exact by6
 ·exact (Xe _ (Xi (Xg _) (Xi (Xg _) (Xi (Xg _) (Xi (Le.nilOwn 5) (Xh _))))) (Xf Y))
 rintro ⟨i,u⟩ hI
 try dsimp only [List.cons_append,List.nil_append] at hI ⊢
 have hi:=hI
 have hpl:(Pa.cellss ((ks.take i).map (Pa.pin a))).length≤1000:=by rw [Pa.cellss_len,List.length_map,List.length_take];omega
 refine QO ?_
 refine Qd1 ?_;intro n18
 refine Qk ?_;intro c19 h19
 refine Qa ?_
 obtain ⟨rfl,g19⟩|⟨rfl,g19⟩:=Za h19
 ·refine QE ?_
  rw [List.take_of_length_le by18]
  refine Qi ?_
  refine Qbz ?_
  refine QdL ?_
  refine Ql ?_
  exact Zn (i:=1) Y Y Y ta_63 Y by2 (Xb _) ⟨Y,Y⟩
 refine Qae ?_
 obtain ⟨⟨qk,qs,qn,ql,qp⟩,hxq⟩:=Zo (l:=ks) (i:=i) by9
 have hcq:=Pa.cellss_get hxq
 have hmq:=Xq hxq
 have HPq:=IH _ hmq
 have hsn:=Yg hxq
 obtain ⟨⟨rk,rs,rn,rks,rp⟩,hr⟩:∃ r,(Pa.mk qk qs qn ql qp).pin a=r:=⟨_,rfl⟩
 rw [hr] at HPq
 refine Qfx ?_
 refine QbO ?_
 refine QaH ?_
 refine Qp ?_
 refine Zh 27 (none) (i:=5) Y Y Y Y Y (Zq Y te_61 Y (.seq _ _) Y Y (hcq) ⟨Y,Y⟩) ?_
 refine Qfy ?_
 refine Qp ?_
 refine Zh 30 (none) (i:=8) Y Y Y Y Y (Ze (xs:=[.tmp 28,.tmp 29]) Y Y (HPq) by3 ⟨Y,Y⟩) ?_
 refine Zh 31 (none) (i:=9) Y Y Y Y Y (Zd (xs:=[.tmp 30]) el_61 Y Y Y Y Y Y (Xm Y) ⟨Y,Y⟩) ?_
 refine Zs 2 (i:=10) Y Y Y Y Y (Zr (i:=0) el_61 Y Y Y Y (.seq _ _) (by simp only [List.length_map,List.length_reverse,List.length_cons,List.length_nil];omega) (fun u32=>⟨_,Y,?_⟩))
 refine QB ?_
 refine Qe2 ?_
 show AGo _ _ _ _ _ _ _
 refine Qaq ?_
 exact ⟨(i+1,u32),by show i+1≤ks.length;omega,by show ks.length - (i+1)<ks.length - i;omega,by6,(Xe _ (Xi (Xg _) (Xi (Xg _) (Xi (Xg _) (Xi (Xl (by rw [hsn,List.map_append,Pa.cellss_app',List.map_cons,hr];rfl)) (Xh _))))) (Xf Y))⟩
termination_by SizeOf.sizeOf p
decreasing_by exact Pa.lt_kid hx
theorem pin_c (a:Int) (e:Ex):e.wid→PCall Tryz.prog 52 [.agg e.cells,.val (.int .i64 a)] (.agg (e.pin a).cells):=by
 obtain ⟨ek,es,en,⟨etk,ets,etn,etl⟩,ks,al,bs,ep⟩:=e
 intro hw
 rw [Ex.wid,Ex.wids_iff,Al.wids_iff] at hw
 obtain ⟨hw1,hw2,hw3,hw4⟩:=hw
 have IHK:∀ x∈ks,PCall Tryz.prog 52 [.agg x.cells,.val (.int .i64 a)] (.agg (x.pin a).cells):=fun x hx=>pin_c a x (hw3 x hx)
 have IHA:∀ q y,Al.mk q y∈al→PCall Tryz.prog 52 [.agg y.cells,.val (.int .i64 a)] (.agg (y.pin a).cells):=fun q y hx=>by
  have h:=hw4 _ hx
  rw [Al.wid] at h
  have hlt:SizeOf.sizeOf y<SizeOf.sizeOf (Ex.mk ek es en ⟨etk,ets,etn,etl⟩ ks al bs ep):=Nat.lt_trans (Al.lt_e (.mk q y)) (Ex.lt_alt hx)
  exact pin_c a y h.2
 have HQ:∀ q y,Al.mk q y∈al→PCall Tryz.prog 83 [.agg q.cells,.val (.int .i64 a)] (.agg (q.pin a).cells):=fun q y hx=>by
  have h:=hw4 _ hx
  rw [Al.wid] at h
  exact pinPat_c a q h.1
 have hlk:=Ex.cellss_len ks
 have hla:=Al.cellss_len al
 rw [Ex.pin,Ex.pins_map,Al.pins_map]
 clear hw3 hw4
 refine Zc Tryz.func52 Y (by kernel_rfl) Y (Xm Y) ?_
 refine Qn ?_
 refine Qc1 ?_
 refine QI ?_;intro b4
 refine QA ?_
 refine QbC ?_
 refine Qay ?_
 refine Zb 15 Y Y Y (Zk (ns:=[0,1,2,7]) (xs:=[.tmp 9,.tmp 11,.tmp 13,.tmp 14]) (cs':=[_,_,_,_,_,_,_,_,_,_,_]) Y tz_58 Y tfl_58 Y Y Y Y ?_)
 refine QI ?_;intro b5
 refine QS ?_
 refine Qv ?_
 refine Q3 ?_
 refine Yb 58 11 ?_
 apply Ye (rg [(0,1),(3,1),(6,1),(8,27)]) (σ:=Nat × Value) (fun zz=>match zz with|(i,u)=>[(6,.val (.int .i64 i))]) (fun zz=>match zz with|(i,u)=>[.loc b5 [.val (.int .i64 ek),.val (.string es),.val (.int .i64 en),.val (.int .i64 0),.val (.string kE),.val (.int .i64 0),.val (.slice none 0 0),.own u 11 (Ex.cellss ((ks.take i).map (Ex.pin a))),.val (.slice none 0 0),.val (.slice none 0 0),.val (.int .i64 a)],.loc b4 zEx,.own 58 11 u]) (fun zz=>match zz with|(i,u)=>i≤ks.length) (fun zz=>match zz with|(i,u)=>ks.length - i) ((0,.slice none 0 0))
 ·repeat' (first|exact Xp|apply Xn rfl|apply Xo rfl)
 ·exact Nat.zero_le _
 ·exact by6
 ·exact (Xe _ (Xi (Xg _) (Xi (Xg _) (Xi (Xg _) (Xi (Xg _) (Xi (Xg _) (Xi (Xg _) (Xi (Xg _) (Xi (Le.nilOwn 11) (Xh _))))))))) (Xf Y))
 rintro ⟨i,u⟩ hI
 try dsimp only [List.cons_append,List.nil_append] at hI ⊢
 have hi:=hI
 have hpl:(Ex.cellss ((ks.take i).map (Ex.pin a))).length≤1000:=by rw [Ex.cellss_len,List.length_map,List.length_take];omega
 refine QO ?_
 refine Qd2 ?_;intro n19
 refine Qk ?_;intro c20 h20
 refine Qa ?_
 obtain ⟨rfl,g20⟩|⟨rfl,g20⟩:=Za h20
 ·refine Qbp ?_
  rw [List.take_of_length_le by18]
  refine QbU ?_
  refine Yb 65 16 ?_
  apply Ye (rg [(0,1),(3,1),(6,58)]) (σ:=Nat × Value) (fun zz=>match zz with|(j,v)=>[(7,.val (.int .i64 j))]) (fun zz=>match zz with|(j,v)=>[.loc b5 [.val (.int .i64 ek),.val (.string es),.val (.int .i64 en),.val (.int .i64 0),.val (.string kE),.val (.int .i64 0),.val (.slice none 0 0),.own u 11 (Ex.cellss (ks.map (Ex.pin a))),.own v 16 (Al.cellss ((al.take j).map (Al.pin a))),.val (.slice none 0 0),.val (.int .i64 a)],.loc b4 zEx,.own 58 11 u,.own 65 16 v]) (fun zz=>match zz with|(j,v)=>j≤al.length) (fun zz=>match zz with|(j,v)=>al.length - j) ((0,.slice none 0 0))
  ·repeat' (first|exact Xp|apply Xn rfl|apply Xo rfl)
  ·exact Nat.zero_le _
  ·exact by6
  ·exact (Xe _ (Xi (Xg _) (Xi (Xg _) (Xi (Xg _) (Xi (Xg _) (Xi (Xg _) (Xi (Xg _) (Xi (Xg _) (Xi (Xg _) (Xi (Le.nilOwn 16) (Xh _)))))))))) (Xf Y))
  rintro ⟨j,v⟩ hI
  try dsimp only [List.cons_append,List.nil_append] at hI ⊢
  have hj:=hI
  have hpl2:(Al.cellss ((al.take j).map (Al.pin a))).length≤1000:=by rw [Al.cellss_len,List.length_map,List.length_take];omega
  refine QO ?_
  refine QcP ?_;intro n38
  refine Qk ?_;intro c39 h39
  refine Qa ?_
  obtain ⟨rfl,g39⟩|⟨rfl,g39⟩:=Za h39
  ·refine QE ?_
   rw [List.take_of_length_le by18]
   refine Qi ?_
   refine Qak ?_
   refine QbJ ?_
   refine Ql ?_
   exact Zn (i:=1) Y Y Y Yf Y by2 (Xb _) ⟨Y,Y⟩
  refine Qae ?_
  obtain ⟨⟨⟨zqk,zqs,zqn,zql,zqp⟩,⟨zk,zs,zn,⟨ztk,zts,ztn,ztl⟩,zks,zal,zbs,zp⟩⟩,hxz⟩:=Zo (l:=al) (i:=j) by9
  have hcz:=Al.cellss_get hxz
  have hmz:=Xq hxz
  have HPz:=HQ _ _ hmz
  have HEz:=IHA _ _ hmz
  have hsn:=Yg hxz
  obtain ⟨⟨pk,ps,pn,pks,pp⟩,hrp⟩:∃ r,(Pa.mk zqk zqs zqn zql zqp).pin a=r:=⟨_,rfl⟩
  rw [hrp] at HPz
  obtain ⟨⟨rk,rs,rn,⟨rtk,rts,rtn,rtl⟩,rks,ral,rbs,rp⟩,hr⟩:∃ r,(Ex.mk zk zs zn ⟨ztk,zts,ztn,ztl⟩ zks zal zbs zp).pin a=r:=⟨_,rfl⟩
  rw [hr] at HEz
  refine Ya [0,1,2,3,4,5,6,7,8,9,10,11,12,13,14,15,16,17,18,19,20,21,22] [20,22] [[],[0],[],[2],[],[2,3,4],[2,3,4,5],[2,3,4,5,6],[],[2,3,4,5,6,7,8],[],[10],[],[10,11,12],[10,11,12,13],[10,11,12,13,14],[],[2,3,4,5,6,7,8,9,10,11,12,13,14,15,16],[2,3,4,5,6,7,8,9,10,11,12,13,14,15,16,17],[2,3,4,5,6,7,8,9,10,11,12,13,14,15,16,17,18],[0,1,2,3,4,5,6,7,8,9,10,11,12,13,14,15,16,17,18,19],[0,1,2,3,4,5,6,7,8,9,10,11,12,13,14,15,16,17,18,19,20],[0,1,2,3,4,5,6,7,8,9,10,11,12,13,14,15,16,17,18,19,20,21]] tmix Y ?_
  refine QbO ?_
  refine QaH ?_
  refine Qp ?_
  refine Qfz ?_
  refine QdY ?_
  refine Qfy ?_
  refine Qp ?_
  refine Zh 51 (none) (i:=9) Y Y Y Y Y (Ze (xs:=[.tmp 49,.tmp 50]) Y Y (HPz) by3 ⟨Y,Y⟩) ?_
  refine QaH ?_
  refine Qp ?_
  refine Qfz ?_
  refine QdY ?_
  refine QfA ?_
  refine Qp ?_
  refine Zh 59 (none) (i:=17) Y Y Y Y Y (Ze (xs:=[.tmp 57,.tmp 58]) Y Y (HEz) by3 ⟨Y,Y⟩) ?_
  refine Zh 60 (none) (i:=18) Y Y Y Y Y (Zk (ns:=[0,1]) (xs:=[.tmp 51,.tmp 59]) (cs':=[_,_,_,_,_,_,_,_,_,_,_,_,_,_,_,_]) Y tz_65 Y tfl_65 Y Y Y Y ⟨Y,Y⟩) ?_
  refine Zh 61 (none) (i:=19) Y Y Y Y Y (Zd (xs:=[.tmp 60]) el_56 Y Y Y Y Y Y (Xm Y) ⟨Y,Y⟩) ?_
  refine Zs 3 (i:=20) Y Y Y Y Y (Zr (i:=0) el_56 Y Y Y Y (.seq _ _) (by simp only [List.length_map,List.length_reverse,List.length_cons,List.length_nil];omega) (fun u62=>⟨_,Y,?_⟩))
  refine QB ?_
  refine Zs 0 (i:=22) Y Y Y Y Y (Zi (cs':=[_,_,_,_,_,_,_,_,_,_,_]) (i:=0) Y ts_56 Y Y Y Y Y (Xm Y) Y ⟨_,Y,?_⟩)
  show AGo _ _ _ _ _ _ _
  refine Qaq ?_
  exact ⟨(j+1,u62),by show j+1≤al.length;omega,by show al.length - (j+1)<al.length - j;omega,by6,(Xe _ (Xi (Xg _) (Xi (Xg _) (Xi (Xg _) (Xi (Xg _) (Xi (Xg _) (Xi (Xg _) (Xi (Xg _) (Xi (Xg _) (Xi (Xl (by rw [hsn,List.map_append,List.map_cons,List.map_nil,Al.cellss_snoc,Al.pin,hrp,hr];rfl)) (Xh _)))))))))) (Xf Y))⟩
 refine Qae ?_
 obtain ⟨⟨qk,qs,qn,⟨qtk,qts,qtn,qtl⟩,qks,qal,qbs,qp⟩,hxq⟩:=Zo (l:=ks) (i:=i) by9
 have hcq:=Ex.cellss_get hxq
 have hmq:=Xq hxq
 have HPq:=IHK _ hmq
 have hsn:=Yg hxq
 obtain ⟨⟨rk,rs,rn,⟨rtk,rts,rtn,rtl⟩,rks,ral,rbs,rp⟩,hr⟩:∃ r,(Ex.mk qk qs qn ⟨qtk,qts,qtn,qtl⟩ qks qal qbs qp).pin a=r:=⟨_,rfl⟩
 rw [hr] at HPq
 refine Qfx ?_
 refine QbO ?_
 refine QaH ?_
 refine Qp ?_
 refine Zh 28 (none) (i:=5) Y Y Y Y Y (Zq Y te_55 Y (.seq _ _) Y Y (hcq) ⟨Y,Y⟩) ?_
 refine QfA ?_
 refine Qp ?_
 refine Zh 31 (none) (i:=8) Y Y Y Y Y (Ze (xs:=[.tmp 29,.tmp 30]) Y Y (HPq) by3 ⟨Y,Y⟩) ?_
 refine Zh 32 (none) (i:=9) Y Y Y Y Y (Zd (xs:=[.tmp 31]) Xa Y Y Y Y Y Y (Xm Y) ⟨Y,Y⟩) ?_
 refine Zs 2 (i:=10) Y Y Y Y Y (Zr (i:=0) Xa Y Y Y Y (.seq _ _) (by simp only [List.length_map,List.length_reverse,List.length_cons,List.length_nil];omega) (fun u33=>⟨_,Y,?_⟩))
 refine QB ?_
 refine Qdm ?_
 show AGo _ _ _ _ _ _ _
 refine Qaq ?_
 exact ⟨(i+1,u33),by show i+1≤ks.length;omega,by show ks.length - (i+1)<ks.length - i;omega,by6,(Xe _ (Xi (Xg _) (Xi (Xg _) (Xi (Xg _) (Xi (Xg _) (Xi (Xg _) (Xi (Xg _) (Xi (Xg _) (Xi (Xl (by rw [hsn,List.map_append,Ex.cellss_map,Ex.cellss_map,List.map_append,List.map_cons,hr];rfl)) (Xh _))))))))) (Xf Y))⟩
termination_by SizeOf.sizeOf e
decreasing_by
 ·exact Ex.lt_kid hx
 exact hlt
theorem rExp_c {a:Int} {s:ByteArray} {e:Ex} (h:Parsed a s e):∃ y:Ex,y.pin a=e∧PCall Tryz.prog 51 [.val (.string s)] (.tup [.agg y.cells,.val (.int .i64 0),.val (.int .i64 0)]):=by
 obtain ⟨y,q,h1,h2,h3,h4⟩:=h
 refine ⟨y,h2,?_⟩
 clear h2 h3
 have HB:=begin_c s
 have hL:=scanT_len s
 have k0:=begin_ok s
 obtain ⟨L,hLe⟩:∃ L,(scanT s).1=L:=⟨_,rfl⟩
 obtain ⟨p0,hp0⟩:∃ p,beginP (scanT s)=p:=⟨_,rfl⟩
 rw [hLe,hp0] at HB k0 h1
 rw [hLe] at hL h4
 have hL:L.length≤100000:=by omega
 have HX:=fun b=>expP_c b L hL p0 k0
 have k1:=(expP_adv' p0 k0).ok k0
 rw [h1] at HX k1
 have HT:=fun b=>take_c b L hL q k1.1 0 kE
 generalize (takeP L q 0 kE).2=q2 at *
 obtain ⟨⟨tk,tt,tn,ta⟩,htk⟩:∃ r,(takeP L q 0 kE).1=r:=⟨_,rfl⟩
 rw [htk] at HT
 obtain ⟨yk,ys,yn,⟨ytk,yts,ytn,ytl⟩,yks,yal,ybs,yp⟩:=y
 refine Zc Tryz.func51 Y (by kernel_rfl) Y (Xm Y) ?_
 refine Qbr ?_;intro b2
 refine Qav ?_
 refine QJ ?_
 refine Zb 8 Y Y Y (op_callat [] (xs:=[.tmp 7]) Y Y Y (HB) by3 ?_)
 rintro v M' ⟨b,rfl,rfl⟩
 refine QaR ?_
 refine Zb 10 Y Y Y (Zf (xs:=[.tmp 9]) (i:=0) Y Y Y (HX b) by3 ?_)
 refine QI ?_;intro b6
 refine QS ?_
 refine Qt ?_
 refine Zb 12 Y Y Y (Zf (xs:=[.tmp 11,.const (.int .i64 0),.const (.string ⟨#[]⟩)]) (i:=1) Y Y Y (HT b) by3 ?_)
 refine Q2 ?_
 refine Qcy ?_;intro c17 h17
 refine Qa ?_
 obtain ⟨rfl,g17⟩|⟨rfl,g17⟩:=Za h17
 ·refine Qbg ?_
  refine Qak ?_
  refine Qca ?_
  refine Qbv ?_
  first
  | exact Zt (i:=2) rfl rfl rfl rfl rfl Yf rfl by2 (Xb _) ⟨rfl,rfl⟩
  | exact Zt (i:=1) rfl rfl rfl rfl rfl Yf rfl by2 (Xb _) ⟨rfl,rfl⟩
 exact absurd h4 g17
structure DaR (d:Da):Prop where
 len:d.cs.length≤6
 ps:d.ps.length≤1000000
 cn:CnS d.cs
theorem rInst_no {nm:Nat→ByteArray} (hm:NmT nm) (d:Da) (hd:DaR d) (cl:ByteArray) (h:nameT cl=kE):PCall Tryz.prog 24 [.agg d.cells,.val (.string cl)] (.tup [.agg in0.cells,.val (.bool false)]):=by
 have HT:=text18_c hm d cl hd.cn hd.len
 rw [h] at HT
 obtain ⟨ds,dps,dcs,ddv,dp⟩:=d
 simp only [Da.cells] at *
 refine Zc Tryz.func24 Y (by kernel_rfl) Y (Xm Y) ?_
 refine Qn ?_
 refine QaU ?_
 refine QcX ?_;intro b4
 refine Qf ?_
 refine Qo ?_
 refine QbK ?_
 refine Qb ?_
 refine Zb 17 Y Y Y (Ze (xs:=[.tmp 15,.tmp 16]) Y Y (HT) by3 ?_)
 refine Qbf ?_
 refine Qcu ?_
 refine Qas ?_;intro c21 h21
 refine Qa ?_
 obtain ⟨rfl,g21⟩|⟨rfl,g21⟩:=Za h21
 ·exact absurd Y g21
 refine Qag ?_
 refine Qfp ?_
 refine Qdq ?_
 refine Qs ?_
 exact out_ct (i:=0) Y Y Y Y ta_49 Y by2 (Xb _) ⟨Y,Y⟩
theorem rInst_yes {nm:Nat→ByteArray} (hm:NmT nm) (d:Da) (hd:DaR d) (cl:ByteArray) (h:nameT cl≠kE) (e:Ex) (hw:e.wid) (hP:Parsed d.p (textT nm d.cs cl) e):PCall Tryz.prog 24 [.agg d.cells,.val (.string cl)] (.tup [.agg (instX d cl (nameT cl) e).cells,.val (.bool true)]):=by
 have HT:=text18_c hm d cl hd.cn hd.len
 obtain ⟨y,hy,HE⟩:=rExp_c hP
 have HN:=pin_c d.p y (Ex.wid_pin d.p y (by rw [hy];exact hw))
 rw [hy] at HN
 clear hy hP hw
 obtain ⟨r,hr⟩:∃ r,instX d cl (nameT cl) e=r:=⟨_,rfl⟩
 rw [hr]
 generalize textT nm d.cs cl=tx at *
 generalize nameT cl=nam at *
 obtain ⟨_,hd2,_⟩:=hd
 obtain ⟨ds,dps,dcs,ddv,dp⟩:=d
 replace hd2:dps.length≤1000000:=hd2
 replace HN:PCall Tryz.prog 52 [.agg y.cells,.val (.int .i64 dp)] (.agg e.cells):=HN
 have hlp:=Yz dps
 obtain ⟨yk,ys,yn,⟨ytk,yts,ytn,ytl⟩,yks,yal,ybs,yp⟩:=y
 obtain ⟨ek,es,en,⟨etk,ets,etn,etl⟩,eks,eal,ebs,ep⟩:=e
 simp only [Da.cells] at *
 refine Zc Tryz.func24 Y (by kernel_rfl) Y (Xm Y) ?_
 refine Qn ?_
 refine QaU ?_
 refine QcX ?_;intro b4
 refine Qf ?_
 refine Qo ?_
 refine QbK ?_
 refine Qb ?_
 refine Zb 17 Y Y Y (Ze (xs:=[.tmp 15,.tmp 16]) Y Y (HT) by3 ?_)
 refine Qbf ?_
 refine Qcu ?_
 refine Qas ?_;intro c21 h21
 refine Qa ?_
 obtain ⟨rfl,g21⟩|⟨rfl,g21⟩:=Za h21
 ·refine QY ?_
  refine Zb 25 Y Y Y (Ze (xs:=[.tmp 24]) Y Y (HE) by3 ?_)
  refine Qbf ?_
  refine Qb2 ?_
  refine QI ?_;intro b8
  refine QS ?_
  refine Qav ?_
  refine QG ?_
  refine Ya [0,1,2,3,4,5,6,7,8,9,10,11,12,13,14,15,16,17] [16,17] [[],[],[1],[1,2],[],[],[],[6],[5,6,7],[],[9],[4,5,6,7,8,9,10],[4,5,6,7,8,9,10,11],[],[13],[0,1,2,3,4,5,6,7,8,9,10,11,12,13,14],[],[0,1,2,3,4,5,6,7,8,9,10,11,12,13,14,15,16]] tmix Y ?_
  refine Qp ?_
  refine QaH ?_
  refine Zh 32 (none) (i:=3) Y Y Y Y Y (Zk (ns:=[0,1]) (xs:=[.const (.int .i64 3),.tmp 31]) (cs':=[_,_,_,_]) Y tz_46 Y tfl_46 Y Y Y Y ⟨Y,Y⟩) ?_
  refine Qp ?_
  refine Qc9 ?_
  refine QaH ?_
  refine Zh 37 (none) (i:=8) Y Y Y Y Y (Ze (xs:=[.tmp 34,.tmp 36]) Y Y (HN) by3 ⟨Y,Y⟩) ?_
  refine QaH ?_
  refine Zh 40 (none) (i:=11) Y Y Y Y Y (Zk (ns:=[0,1,2]) (xs:=[.tmp 33,.tmp 37,.tmp 39]) (cs':=[_,_,_,_,_,_,_,_,_,_,_,_,_]) Y tz_60 Y tfl_60 Y Y Y Y ⟨Y,Y⟩) ?_
  refine Zh 41 (none) (i:=12) Y Y Y Y Y (Zd (xs:=[.tmp 40]) el_26 Y Y Y Y Y Y (Xm Y) ⟨Y,Y⟩) ?_
  refine QaH ?_
  refine Zh 44 (none) (i:=15) Y Y Y Y Y (Zk (ns:=[0,1,3,4]) (xs:=[.tmp 29,.tmp 32,.tmp 41,.tmp 43]) (cs':=[_,_,_,_,_,_,_,_]) Y tz_49 Y tfl_49 Y Y Y Y ⟨Y,Y⟩) ?_
  refine EOps.nw (i:=16) Y Y Y (Yl (cs':=[_,_,_,_,_,_,_,_]) Y tz_49 Y Y (fun b11=>⟨_,Y,?_⟩))
  refine Zs 2 (i:=17) Y Y Y Y Y (Zi (cs':=[_,_,_,_,_,_,_,_]) (i:=0) Y ts_49 Y Y Y Y Y (Xm Y) Y ⟨_,Y,?_⟩)
  show AGo _ _ _ _ _ _ _
  refine QaS ?_
  refine Q3 ?_
  refine Yb 46 4 (Yb 97 5 ?_)
  apply Ye (rg [(0,1),(3,1),(6,5),(12,62)]) (σ:=Nat × Value × Value) (fun zz=>match zz with|(i,u,v)=>[(12,.val (.int .i64 i))]) (fun zz=>match zz with|(i,u,v)=>[.loc b4 zIn,.loc b11 [.val (.string cl),.val (.int .i64 3),.val (.string ds),.val (.int .i64 0),.own u 4 (Ty.cellss ((dps.take i).map parT)),.own v 5 (Pr.cellss ((dps.take i).map fun s=>Pr.mk cl (parT s))),.seq 13 (Bi.cellss [.mk nam (.mk ek es en ⟨etk,ets,etn,etl⟩ eks eal ebs ep) dp]),.val (.int .i64 dp)],.own 46 4 u,.own 97 5 v]) (fun zz=>match zz with|(i,u,v)=>i≤dps.length) (fun zz=>match zz with|(i,u,v)=>dps.length - i) ((0,.slice none 0 0,.slice none 0 0))
  ·repeat' (first|exact Xp|apply Xn rfl|apply Xo rfl)
  ·exact Nat.zero_le _
  ·exact by6
  ·exact (Xd _ (Xc _ (Xe _ (Xi (Xg _) (Xi (Xg _) (Xi (Xg _) (Xi (Xg _) (Xi (Le.nilOwn 4) (Xi (Le.nilOwn 5) (Xi (Xg _) (Xh _)))))))) (Xf Y))))
  rintro ⟨i,u,v⟩ hI
  try dsimp only [List.cons_append,List.nil_append] at hI ⊢
  have hi:=hI
  have ht1:(Ty.cellss ((dps.take i).map parT)).length≤1000000:=by rw [Ty.cellss_len,List.length_map,List.length_take];omega
  have ht2:(Pr.cellss ((dps.take i).map fun s=>Pr.mk cl (parT s))).length≤1000000:=by rw [Pr.cellss_len,List.length_map,List.length_take];omega
  refine QO ?_
  refine Qa4 ?_;intro n48
  refine Qk ?_;intro c49 h49
  refine Qa ?_
  obtain ⟨rfl,g49⟩|⟨rfl,g49⟩:=Za h49
  ·refine QE ?_
   rw [List.take_of_length_le by18]
   subst hr
   refine Qi ?_
   refine Zb 74 Y Y Y (Zv (cs':=[_,_,_,_,_,_,_,_]) (i:=1) Y ta_49 Y Y Y Y ?_)
   refine Qdq ?_
   refine Qs ?_
   exact out_ct (i:=0) Y Y Y Y ta_49 Y by2 (Xb _) ⟨Y,Y⟩
  refine Qx ?_
  obtain ⟨q,hxq⟩:=Zo (l:=dps) (i:=i) by9
  have hcq:=strs_get hxq
  have hmq:=Xq hxq
  refine Qi ?_
  refine Qay ?_
  refine QdS ?_
  refine QbG ?_
  refine Zb 57 Y Y Y (Zk (ns:=[0,1]) (xs:=[.const (.int .i64 1),.tmp 56]) (cs':=[_,_,_,_]) Y tz_46 Y tfl_46 Y Y Y Y ?_)
  refine QcU ?_;intro b13
  refine QcV ?_
  refine Qa ?_
  refine Qat ?_
  refine Qu ?_
  refine QcF ?_
  refine QcW ?_
  refine Zb 62 Y Y Y (Zd (xs:=[.tmp 61]) el_44 Y Y Y Y Y Y (Xm Y) ?_)
  refine Qfs ?_
  intro u63
  refine Qu ?_
  refine Qu ?_
  refine Zp Y Y (Zi (cs':=[_,_,_,_,_,_,_,_]) (i:=2) Y ts_44 Y Y Y Y Y (Xm Y) Y ?_)
  refine Qa ?_
  refine QaX ?_
  refine QcF ?_
  refine Qb ?_
  refine QcW ?_
  refine Zb 70 Y Y Y (Zk (ns:=[0,1]) (xs:=[.tmp 68,.tmp 69]) (cs':=[_,_,_,_,_]) Y tz_97 Y tfl_97 Y Y Y Y (Zb 71 Y Y Y (Zd (xs:=[.tmp 70]) el_47 Y Y Y Y Y Y (Xm Y) ?_)))
  refine Qft ?_
  intro u72
  refine Qu ?_
  refine Zp Y Y (Zi (cs':=[_,_,_,_,_,_,_,_]) (i:=2) Y ts_47 Y Y Y Y Y (Xm Y) Y ?_)
  refine Qac ?_
  refine Qaq ?_
  have hsn:=Yg hxq
  exact ⟨(i+1,u63,u72),by show i+1≤dps.length;omega,by show dps.length - (i+1)<dps.length - i;omega,by6,Xd _ (Xc _ (Xe _ (Xi (Xg _) (Xi (Xg _) (Xi (Xg _) (Xi (Xg _) (Xi (by rw [hsn,List.map_append];exact Le.own_less (Ty.cellss_app1 _ _)) (Xi (by rw [hsn,List.map_append];exact preds_snoc _ _ _) (Xi (Xg _) (Xh _)))))))) (Xf Y)))⟩
 exact absurd g21 h
theorem bindX_name {a:Int} {cs:List Cn} {cl nm:ByteArray} {e:Ex} (h:bindX a cs cl=some (nm,e)):nm=nameT cl∧nameT cl≠kE:=by
 unfold bindX at h
 by_cases h1:cl=kcEq
 ·rw [if_pos h1] at h;cases h;rw [h1,name_eq];exact ⟨rfl,kc_ne.2.2.2.2.2⟩
 by_cases h2:cl=kcOrd
 ·rw [if_neg h1,if_pos h2] at h;cases h;rw [h2,name_ord];exact ⟨rfl,kc_ne.2.2.2.2.1⟩
 by_cases h3:cl=kcShow
 ·rw [if_neg h1,if_neg h2,if_pos h3] at h;cases h;rw [h3,name_show];exact ⟨rfl,kc_ne.2.2.2.1⟩
 rw [if_neg h1,if_neg h2,if_neg h3] at h;simp at h
theorem bindX_none {a:Int} {cs:List Cn} {cl:ByteArray} (h:bindX a cs cl=none):nameT cl=kE:=by
 unfold bindX at h
 by_cases h1:cl=kcEq
 ·rw [if_pos h1] at h;simp at h
 by_cases h2:cl=kcOrd
 ·rw [if_neg h1,if_pos h2] at h;simp at h
 by_cases h3:cl=kcShow
 ·rw [if_neg h1,if_neg h2,if_pos h3] at h;simp at h
 exact name_not h1 h2 h3
theorem bindX_law {a:Int} {cs:List Cn} (hg:DtG cs) {cl nm:ByteArray} {e:Ex} (h:bindX a cs cl=some (nm,e)):Parsed a (textT num cs cl) e:=by
 have hne:=(bindX_name h).2
 have:=text_law num_good num_size a hg hne
 unfold bindX at h
 by_cases h1:cl=kcEq
 ·rw [if_pos h1] at h this;cases h;rw [← eqB_law a hg.ne];exact this
 by_cases h2:cl=kcOrd
 ·rw [if_neg h1,if_pos h2] at h this;cases h;rw [← ordB_law a hg.ne];exact this
 by_cases h3:cl=kcShow
 ·rw [if_neg h1,if_neg h2,if_pos h3] at h;rw [if_neg h1,if_neg h2] at this;cases h;rw [← showB_law a hg.ne];exact this
 rw [if_neg h1,if_neg h2,if_neg h3] at h;simp at h
theorem DtG.cns {cs:List Cn} (h:DtG cs):CnS cs:=fun c hc=>⟨h.sz c hc,(h.cn c hc).2⟩
theorem rInst_c (d:Da) (hg:DtG d.cs) (hp:d.ps.length≤1000000) (cl:ByteArray):PCall Tryz.prog 24 [.agg d.cells,.val (.string cl)] (.tup [.agg (instR d cl).1.cells,.val (.bool (decide ((instR d cl).2=0)))]):=by
 have hd:DaR d:=⟨hg.len,hp,hg.cns⟩
 unfold instR
 cases hb:bindX d.p d.cs cl with
 | none=>exact rInst_no num_t d hd cl (bindX_none hb)
 | some x =>
  obtain ⟨nm,e⟩:=x
  obtain ⟨rfl,hne⟩:=bindX_name hb
  have hw:CnW d.cs:=⟨by have:=hg.len;omega,fun c hc=>by have:=(hg.cn c hc).2;omega⟩
  exact rInst_yes num_t d hd cl hne e (bindX_wid hw hb) (bindX_law hg hb)
theorem DtG.das {d:Da} (hg:DtG d.cs) (hp:d.ps.length≤1000000):DaS d:=⟨by have:=hg.len;omega,hp,fun c hc=>⟨by have:=(hg.cn c hc).2;omega,by have:=hg.sz c hc;omega⟩⟩
theorem Pa.pin_pin (a:Int) (p:Pa):(p.pin a).pin a=p.pin a:=by
 obtain ⟨k,s,n,ks,pl⟩:=p
 rw [Pa.pin,Pa.pin,Pa.pins_map,Pa.pins_map,List.map_map]
 congr 1
 refine List.map_congr_left fun x hx=>?_
 exact Pa.pin_pin a x
termination_by SizeOf.sizeOf p
decreasing_by exact Pa.lt_kid hx
theorem Ex.pin_pin (a:Int) (e:Ex):(e.pin a).pin a=e.pin a:=by
 obtain ⟨k,s,n,t,ks,al,bs,pl⟩:=e
 rw [Ex.pin,Ex.pin,Ex.pins_map,Ex.pins_map,Al.pins_map,Al.pins_map,List.map_map,List.map_map]
 congr 1
 ·refine List.map_congr_left fun x hx=>?_
  exact Ex.pin_pin a x
 refine List.map_congr_left fun x hx=>?_
 obtain ⟨q,y⟩:=x
 have hlt:SizeOf.sizeOf y<SizeOf.sizeOf (Ex.mk k s n t ks al bs pl):=Nat.lt_trans (Al.lt_e (.mk q y)) (Ex.lt_alt hx)
 show Al.pin a (Al.pin a (.mk q y))=Al.pin a (.mk q y)
 rw [Al.pin,Al.pin,Pa.pin_pin a q,Ex.pin_pin a y]
termination_by SizeOf.sizeOf e
decreasing_by
 ·exact Ex.lt_kid hx
 exact hlt
theorem map_id_mem {α:Type} {f:α→α}:∀ {l:List α},l.map f=l→∀ x∈l,f x=x
 | [],_,x,h=>by simp at h
 | y::l,e,x,h=>by
  rw [List.map_cons] at e
  obtain ⟨e1,e2⟩:=List.cons.inj e
  rcases List.mem_cons.1 h with rfl|h
  ·exact e1
  exact map_id_mem e2 x h
theorem patAt_c (a:Int) (p:Pa):p.pin a=p→PCall Tryz.prog 58 [.agg p.cells,.val (.int .i64 a)] (.val (.bool true)):=by
 obtain ⟨pk,ps,pn,ks,pp⟩:=p
 intro hp
 rw [Pa.pin,Pa.pins_map] at hp
 obtain ⟨_,_,_,h1,h2⟩:=Pa.mk.inj hp
 subst h2
 have IH:∀ x∈ks,PCall Tryz.prog 58 [.agg x.cells,.val (.int .i64 a)] (.val (.bool true)):=fun x hx=>patAt_c a x (map_id_mem h1 x hx)
 have hl:=Pa.cellss_len ks
 clear h1 hp
 refine Zc Tryz.func58 Y (by kernel_rfl) Y (Xm Y) ?_
 refine Q5 ?_
 refine c_lena (t:=0) (j:=3) Y Y (.seq _ _) (fun hmax=>?_)
 refine Qo ?_
 refine QaU ?_
 refine Qaw ?_
 refine Q4 ?_
 refine Qd1 ?_;intro n9
 refine QaN ?_
 apply Zy (rg [(0,1),(3,5),(10,9)]) (σ:=Nat) (fun zz=>match zz with|i=>[(10,.val (.int .i64 i))]) (fun zz=>match zz with|i=>i≤ks.length) (fun zz=>match zz with|i=>ks.length - i) (0)
 ·repeat' (first|exact Xp|apply Xn rfl|apply Xo rfl)
 ·exact Nat.zero_le _
 ·exact by6
 rintro i hI
 try dsimp only [List.cons_append,List.nil_append] at hI ⊢
 have hi:=hI
 refine QaO ?_;intro c11 h11
 refine Qv ?_
 obtain ⟨rfl,g11⟩|⟨rfl,g11⟩:=Za h11
 ·refine QaE ?_
  refine Q4 ?_
  refine QbV ?_;intro c22 h22
  refine Qs ?_
  obtain rfl:c22=true:=h22.2 rfl
  exact Zg Y Y (Xg _) (Xb _) ⟨Y,Y⟩
 refine Qx ?_
 obtain ⟨⟨qk,qs,qn,ql,qp⟩,hxq⟩:=Zo (l:=ks) (i:=i) by9
 have hcq:=Pa.cellss_get hxq
 have hmq:=Xq hxq
 have HPq:=IH _ hmq
 refine Qi ?_
 refine Zb 12 Y Y Y (Zq Y te_61 Y (.seq _ _) Y Y (hcq) (Zb 13 Y Y Y (Zz (cs':=[_,_,_,_,_]) Y ta_63 Y Y Y ?_)))
 refine QaV ?_;intro b6
 refine QbI ?_
 refine QA ?_
 refine Qbz ?_
 refine Qb ?_
 refine Zb 16 Y Y Y (Ze (xs:=[.tmp 14,.tmp 15]) Y Y (HPq) by3 ?_)
 refine Qaj ?_;intro c17 h17
 try replace h17:=nott h17 h16
 refine Qa ?_
 obtain ⟨rfl,g17⟩|⟨rfl,g17⟩:=Za h17
 ·refine Qau ?_
  refine Qax ?_
  exact ⟨i+1,by show i+1≤ks.length;omega,by show ks.length - (i+1)<ks.length - i;omega,by6,by5⟩
 refine QaG ?_
 exact absurd g17 by19
termination_by SizeOf.sizeOf p
decreasing_by exact Pa.lt_kid hx
theorem pin_parts {a:Int} {e:Ex} (h:e.pin a=e) (hw:e.wid):(∀ x∈e.parts,x.pin a=x∧x.wid)∧e.parts.length≤2000:=by
 obtain ⟨k,s,n,t,ks,al,bs,p⟩:=e
 rw [Ex.pin,Ex.pins_map,Al.pins_map] at h
 obtain ⟨_,_,_,_,h1,h2,h3,_⟩:=Ex.mk.inj h
 rw [Ex.wid,Ex.wids_iff,Al.wids_iff] at hw
 obtain ⟨w1,w2,w3,w4⟩:=hw
 have hk:∀ x∈ks,x.pin a=x∧x.wid:=fun x hx=>⟨map_id_mem h1 x hx,w3 x hx⟩
 refine ⟨fun x hx=>?_,?_⟩
 ·simp only [Ex.parts,List.mem_append,List.mem_map] at hx
  rcases hx with ((hx|⟨b,hb,rfl⟩)|hx)|⟨y,hy,rfl⟩
  ·split at hx
   ·simp at hx
   exact hk x hx
  ·rw [← h3] at hb;simp at hb
  ·split at hx
   ·exact hk x hx
   simp at hx
  have e1:=map_id_mem h2 y hy
  have e2:=w4 y hy
  obtain ⟨q,z⟩:=y
  rw [Al.pin] at e1
  rw [Al.wid] at e2
  exact ⟨(Al.mk.inj e1).2,e2.2⟩
 simp only [Ex.parts,List.length_append,List.length_map]
 rw [← h3]
 split <;> simp <;> omega
theorem at_c (a:Int) (e:Ex):e.pin a=e→e.wid→PCall Tryz.prog 30 [.agg e.cells,.val (.int .i64 a)] (.val (.bool true)):=by
 intro hp hw
 obtain ⟨hq,hlen⟩:=pin_parts hp hw
 have IH:∀ x∈e.parts,PCall Tryz.prog 30 [.agg x.cells,.val (.int .i64 a)] (.val (.bool true)):=fun x hx=>at_c a x (hq x hx).1 (hq x hx).2
 have HP:=rParts_c e by18
 clear hq
 generalize hps:e.parts=ps at *
 clear hps
 have hl:=Ex.cellss_len ps
 obtain ⟨ek,es,en,⟨etk,ets,etn,etl⟩,ks,al,bs,ep⟩:=e
 rw [Ex.pin,Ex.pins_map,Al.pins_map] at hp
 obtain ⟨_,_,_,_,_,h2,_,h4⟩:=Ex.mk.inj hp
 subst h4
 have HQ:∀ q y,Al.mk q y∈al→PCall Tryz.prog 58 [.agg q.cells,.val (.int .i64 a)] (.val (.bool true)):=fun q y hx=>by
  have e1:=map_id_mem h2 _ hx
  rw [Al.pin] at e1
  exact patAt_c a q (Al.mk.inj e1).1
 rw [Ex.wid] at hw
 have hwa:=hw.2.1
 have hla:=Al.cellss_len al
 clear hw h2 hp
 refine Zc Tryz.func30 Y (by kernel_rfl) Y (Xm Y) ?_
 refine Qn ?_
 refine Qc1 ?_
 refine Qaw ?_
 refine Qo ?_
 refine Qbs ?_
 refine Zb 10 Y Y Y (op_callo (xs:=[.tmp 9]) Y Y (HP) by3 ?_);intro u10
 refine Zb 11 Y Y Y (Yk Y tu_55 Y (.own _ _ _) (fun n11=>?_))
 refine QaN ?_
 apply Zy (rg [(0,1),(3,5),(9,1),(12,9)]) (σ:=Nat) (fun zz=>match zz with|i=>[(12,.val (.int .i64 i))]) (fun zz=>match zz with|i=>i≤ps.length) (fun zz=>match zz with|i=>ps.length - i) (0)
 ·repeat' (first|exact Xp|apply Xn rfl|apply Xo rfl)
 ·exact Nat.zero_le _
 ·exact by6
 rintro i hI
 try dsimp only [List.cons_append,List.nil_append] at hI ⊢
 have hi:=hI
 refine QaO ?_;intro c13 h13
 refine Qv ?_
 obtain ⟨rfl,g13⟩|⟨rfl,g13⟩:=Za h13
 ·refine QE ?_
  refine Q4 ?_
  refine QcP ?_;intro n23
  refine QaN ?_
  apply Zy (rg [(0,1),(3,19),(24,10)]) (σ:=Nat) (fun zz=>match zz with|j=>[(24,.val (.int .i64 j))]) (fun zz=>match zz with|j=>j≤al.length) (fun zz=>match zz with|j=>al.length - j) (0)
  ·repeat' (first|exact Xp|apply Xn rfl|apply Xo rfl)
  ·exact Nat.zero_le _
  ·exact by6
  rintro j hI
  try dsimp only [List.cons_append,List.nil_append] at hI ⊢
  have hj:=hI
  refine QaO ?_;intro c25 h25
  refine Qv ?_
  obtain ⟨rfl,g25⟩|⟨rfl,g25⟩:=Za h25
  ·refine QaE ?_
   refine Q4 ?_
   refine QbV ?_;intro c37 h37
   refine Qs ?_
   obtain rfl:c37=true:=h37.2 rfl
   exact Zg Y Y (Xg _) (Xb _) ⟨Y,Y⟩
  refine Qx ?_
  obtain ⟨⟨⟨zqk,zqs,zqn,zql,zqp⟩,⟨zk,zs,zn,⟨ztk,zts,ztn,ztl⟩,zks,zal,zbs,zp⟩⟩,hxz⟩:=Zo (l:=al) (i:=j) by9
  have hcz:=Al.cellss_get hxz
  have hmz:=Xq hxz
  have HPz:=HQ _ _ hmz
  refine Qi ?_
  refine Zb 26 Y Y Y (Zq Y te_56 Y (.seq _ _) Y Y (hcz) (Zb 27 Y Y Y (Zz (cs':=[_,_,_,_,_,_,_,_,_,_,_,_,_,_,_,_]) Y ta_65 Y Y Y ?_)))
  refine Qe7 ?_;intro b8
  refine Qe8 ?_
  refine Qa ?_
  refine Qat ?_
  refine Qbz ?_
  refine Qb ?_
  refine Zb 31 Y Y Y (Ze (xs:=[.tmp 29,.tmp 30]) Y Y (HPz) by3 ?_)
  refine Qaj ?_;intro c32 h32
  try replace h32:=nott h32 h31
  refine Qa ?_
  obtain ⟨rfl,g32⟩|⟨rfl,g32⟩:=Za h32
  ·refine Qau ?_
   refine Qax ?_
   exact ⟨j+1,by show j+1≤al.length;omega,by show al.length - (j+1)<al.length - j;omega,by6,by5⟩
  refine QaG ?_
  exact absurd g32 by19
 refine Qx ?_
 obtain ⟨⟨qk,qs,qn,⟨qtk,qts,qtn,qtl⟩,qks,qal,qbs,qp⟩,hxq⟩:=Zo (l:=ps) (i:=i) by9
 have hcq:=Ex.cellss_get hxq
 have hmq:=Xq hxq
 have HPq:=IH _ hmq
 refine Qi ?_
 refine Zb 14 Y Y Y (Zq Y te_55 Y (.own _ _ _) Y Y (hcq) ?_)
 refine Qbs ?_
 refine QI ?_;intro b6
 refine QS ?_
 refine QA ?_
 refine Qak ?_
 refine Qb ?_
 refine Zb 18 Y Y Y (Ze (xs:=[.tmp 16,.tmp 17]) Y Y (HPq) by3 ?_)
 refine Qaj ?_;intro c19 h19
 try replace h19:=nott h19 h18
 refine Qa ?_
 obtain ⟨rfl,g19⟩|⟨rfl,g19⟩:=Za h19
 ·refine Qau ?_
  refine Qax ?_
  exact ⟨i+1,by show i+1≤ps.length;omega,by show ps.length - (i+1)<ps.length - i;omega,by6,by5⟩
 refine QaG ?_
 exact absurd g19 by19
termination_by SizeOf.sizeOf e
decreasing_by exact Ex.lt_part hx
/- one instance, whose binds stand at its place, is the same as itself -/
theorem same18_c (x:In) (h:∀ b∈x.bs,b.e.pin x.p=b.e∧b.e.wid) (hl:x.bs.length≤1000):PCall Tryz.prog 10 [.agg x.cells,.agg x.cells] (.val (.bool true)):=by
 have HS:=rSameInst_c x x
 have HA:=fun b hb=>at_c x.p b.e (h b hb).1 (h b hb).2
 clear h
 obtain ⟨xc,⟨xk,xs,xn,xl⟩,xcx,xbs,xp⟩:=x
 replace hl:xbs.length≤1000:=hl
 have hlb:=Bi.cellss_len xbs
 replace HA:∀ b∈xbs,PCall Tryz.prog 30 [.agg b.e.cells,.val (.int .i64 xp)] (.val (.bool true)):=HA
 refine Zc Tryz.func10 Y (by kernel_rfl) Y (Xm Y) ?_
 refine Qn ?_
 refine QdE ?_
 refine QdE ?_
 refine Qba ?_
 refine Zx 25 (False) ?_ _ _ Y ?_
 ·skip
  refine QfB ?_
  refine QfB ?_
  refine Zb 8 Y Y Y (Zl (xs:=[.tmp 6,.tmp 7]) Y Y (HS) by3 ?_);intro c8 h8
  refine Qaj ?_;intro c9 h9
  try replace h9:=nott h9 h8
  refine Qb ?_
  obtain ⟨rfl,g9⟩|⟨rfl,g9⟩:=Za h9
  ·skip
   refine QbR ?_
   refine QaD ?_;intro c15 h15
   refine Qq ?_
   obtain ⟨rfl,g15⟩|⟨rfl,g15⟩:=Za h15
   ·skip
    refine QC ?_
    refine Qeq ?_;intro n20
    refine QC ?_
    refine Qeq ?_;intro n23
    refine QaD ?_;intro c24 h24
    refine Qg ?_
    refine Xk Y ?_ by7 by5
    clear HS HA;simp_all
   skip
   refine QbS ?_
   refine Qg ?_
   refine Xk Y ?_ by7 by5
   clear HS HA;simp_all
  skip
  refine Qa9 ?_
  refine Qcj ?_
  refine Xk Y ?_ by7 by5
  clear HS HA;simp_all
 intro c25 h25
 refine Qc ?_
 obtain ⟨rfl,g25⟩|⟨rfl,g25⟩:=Za h25
 ·refine Q7 ?_
  refine Q4 ?_
  refine Qc0 ?_;intro n28
  refine QaN ?_
  apply Zy (rg [(0,2),(4,24),(29,29)]) (σ:=Nat) (fun zz=>match zz with|i=>[(29,.val (.int .i64 i))]) (fun zz=>match zz with|i=>i≤xbs.length) (fun zz=>match zz with|i=>xbs.length - i) (0)
  ·repeat' (first|exact Xp|apply Xn rfl|apply Xo rfl)
  ·exact Nat.zero_le _
  ·exact by6
  rintro i hI
  try dsimp only [List.cons_append,List.nil_append] at hI ⊢
  have hi:=hI
  refine QaO ?_;intro c30 h30
  refine Qv ?_
  obtain ⟨rfl,g30⟩|⟨rfl,g30⟩:=Za h30
  ·refine QaM ?_
   exact Zg Y Y (Xg _) (Xb _) ⟨Y,Y⟩
  refine Qae ?_
  refine QJ ?_
  refine Qaw ?_
  obtain ⟨⟨qb,⟨qk,qs,qn,⟨qtk,qts,qtn,qtl⟩,qks,qal,qbs,qp⟩,qq⟩,hxq⟩:=Zo (l:=xbs) (i:=i) by9
  have hcq:=Bi.cellss_get hxq
  have hmq:=Xq hxq
  have HPq:=HA _ hmq
  refine c_boold 56 (False) tmix Y ?_ _ _ Y ?_
  ·skip
   refine Q9 ?_
   refine QfC ?_
   refine QbB ?_
   refine Q9 ?_
   refine QfC ?_
   refine QbB ?_
   refine Yp 44 Y Y (fun _ q=>op_neq Y Y Y q) ?_;intro c44 h44
   refine QR ?_
   obtain ⟨rfl,g44⟩|⟨rfl,g44⟩:=Za h44
   ·skip
    refine Qcl ?_
    refine Yq 49 Y Y Y Y (Zq Y te_26 Y (.seq _ _) Y Y (hcq) ⟨Y,Y⟩) ?_
    refine Qbk ?_
    refine Qde ?_
    refine Qbk ?_
    refine Qdv ?_
    refine Yq 54 Y Y Y Y (Ze (xs:=[.tmp 51,.tmp 53]) Y Y (HPq) by3 ⟨Y,Y⟩) ?_
    refine DOps.gtc 55 Y Y Y Y (fun _ q=>op_notc Y Y q) ?_;intro c55 h55
    try replace h55:=nott h55 h54
    refine QaK ?_
    show BoolQ _ _ _ _ _ _
    refine Xk Y ?_ by7 by5
    clear HS HA HPq;simp_all
   skip
   refine Qaf ?_
   refine Qaf ?_
   refine QaJ ?_
   refine QaJ ?_
   refine QaK ?_
   show BoolQ _ _ _ _ _ _
   refine Xk Y ?_ by7 by5
   clear HS HA HPq;simp_all
  intro c56 h56
  refine Qc ?_
  obtain ⟨rfl,g56⟩|⟨rfl,g56⟩:=Za h56
  ·refine Qau ?_
   refine Qax ?_
   exact ⟨i+1,by show i+1≤xbs.length;omega,by show xbs.length - (i+1)<xbs.length - i;omega,by6,by5⟩
  exact g56.elim
 exact g25.elim
theorem bytes_at {s:ByteArray} {i:Nat} {b:UInt8} (h:s[i]?=some b):(bytesN s)[i]?=some b.toNat:=by
 obtain ⟨h1,h2⟩:=getElem?_eq_some_iff.1 h
 have h3:i<(bytesN s).length:=by rw [bytesN_len];exact h1
 rw [List.getElem?_eq_getElem h3,bytesN_get s i h1 h3,h2]
theorem byte_get {s:ByteArray} {i:Nat} (h:i<s.size):∃ b,s[i]?=some b:=⟨s[i],by rw [getElem?_eq_some_iff];exact ⟨h,rfl⟩⟩
theorem names_c (s:ByteArray) (hs:s.size≤40):BCall Tryz.prog 76 [.val (.string s)] (namesP s):=by
 refine Zc Tryz.func76 Y (by kernel_rfl) Y (Xm Y) ?_
 refine Qbc ?_
 refine Q3 ?_
 apply Zy (rg [(1,14)]) (σ:=Nat) (fun zz=>match zz with|i=>[(3,.val (.int .i64 i))]) (fun zz=>match zz with|i=>i≤s.size∧∀ c∈(bytesN s).take i,nameC c=true) (fun zz=>match zz with|i=>s.size - i) (0)
 ·repeat' (first|exact Xp|apply Xn rfl|apply Xo rfl)
 ·exact ⟨Nat.zero_le _,by simp⟩
 ·exact by6
 rintro i hI
 try dsimp only [List.cons_append,List.nil_append] at hI ⊢
 obtain ⟨hi,hn⟩:=hI
 refine Qal ?_
 refine QbW ?_;intro c7 h7
 refine Qa ?_
 obtain ⟨rfl,g7⟩|⟨rfl,g7⟩:=Za h7
 ·refine QaM ?_
  rw [List.take_of_length_le (by rw [bytesN_len];omega)] at hn
  exact Zg Y Y (Xg _) by5 ⟨⟨_,iff_t hn,Y⟩,Y⟩
 refine Qx ?_
 obtain ⟨b,hb⟩:=byte_get (s:=s) (i:=i) by18
 have hb2:=bytes_at hb
 have HN:=name_c b.toNat
 have hsn:=Yg hb2
 refine QF ?_
 refine Zb 12 Y Y Y (Yj (i:=i) Y tu_9 Y Y by12 (hb) ?_)
 refine Zb 13 Y Y Y (Zl (xs:=[.tmp 12]) Y Y (HN) by3 ?_);intro c13 h13
 refine Qaj ?_;intro c14 h14
 try replace h14:=nott h14 h13
 refine Qa ?_
 obtain ⟨rfl,g14⟩|⟨rfl,g14⟩:=Za h14
 ·refine Q8 ?_
  exact ⟨i+1,⟨by show i+1≤s.size;omega,fun c hc=>by
   rw [hsn] at hc
   rcases List.mem_append.1 hc with hc|hc
   ·exact hn c hc
   rw [List.mem_singleton] at hc;subst hc;exact Classical.not_not.1 g14⟩,by show s.size - (i+1)<s.size - i;omega,by6,by5⟩
 refine Qr ?_
 exact Zg Y Y (Xg _) by5 ⟨⟨_,Yw (fun q=>g14 (q _ (Xq hb2))),Y⟩,Y⟩
theorem upP_iff {s:ByteArray} {b:UInt8} (hb:s[0]?=some b):upP s↔s.size≤40∧greatC b.toNat=true∧namesP s:=by
 have h0:=bytes_at hb
 obtain ⟨r,hr⟩:∃ r,bytesN s=b.toNat::r:=by
  cases hh:bytesN s with
  | nil=>rw [hh] at h0;simp at h0
  | cons x r=>rw [hh] at h0;simp at h0;exact ⟨r,by rw [h0]⟩
 unfold upP namesP
 rw [hr]
 constructor
 ·rintro ⟨h1,c,r',h2,h3,h4⟩
  obtain ⟨rfl,rfl⟩:=List.cons.inj h2
  exact ⟨h1,h3,h4⟩
 rintro ⟨h1,h2,h3⟩
 exact ⟨h1,_,_,Y,h2,h3⟩
theorem upP_kE:¬ upP kE:=by
 rintro ⟨_,c,r,h,_⟩
 simp [bytesN] at h
theorem IsUp_c (s:ByteArray):BCall Tryz.prog 45 [.val (.string s)] (upP s):=by
 by_cases h0:s.size=0
 ·obtain rfl:s=kE:=by
   obtain ⟨⟨l⟩⟩:=s
   cases l with
   | nil=>rfl
   | cons x l=>exact absurd h0 (by show ¬ (l.length+1=0);omega)
  have hu:=upP_kE
  refine Zc Tryz.func45 Y (by kernel_rfl) Y (Xm Y) ?_
  refine Qbc ?_
  refine Zx 2 (False) ?_ _ _ Y ?_
  ·skip
   refine Qb ?_
   refine QcI ?_;intro c4 h4
   refine Qb ?_
   obtain ⟨rfl,g4⟩|⟨rfl,g4⟩:=Za h4
   ·skip
    refine Qa2 ?_
    refine Qa2 ?_
    refine Qaa ?_
    refine Xk Y ?_ by7 by5
    simp
   exact absurd Y g4
  intro c2 h2
  refine QX ?_
  exact Zg Y Y (Xg _) by5 ⟨⟨_,h2.trans ⟨False.elim,fun q=>hu q⟩,Y⟩,Y⟩
 obtain ⟨b,hb⟩:=byte_get (s:=s) (i:=0) by18
 have hu:=upP_iff hb
 have HG:=great_c b.toNat
 have HN:=fun h=>names_c s h
 have hne:s≠kE:=fun q=>h0 (by rw [q];rfl)
 refine Zc Tryz.func45 Y (by kernel_rfl) Y (Xm Y) ?_
 refine Qbc ?_
 refine Zx 2 (s.size≤40∧greatC b.toNat=true∧namesP s) ?_ _ _ Y ?_
 ·skip
  refine Qb ?_
  refine QcI ?_;intro c4 h4
  refine Qb ?_
  obtain ⟨rfl,g4⟩|⟨rfl,g4⟩:=Za h4
  ·skip
   refine Qa2 ?_
   refine Qa2 ?_
   refine Qaa ?_
   refine Xk Y ?_ by7 by5
   clear HG HN;first|(simp_all;done)|(simp_all;omega)|grind
  skip
  refine Qd ?_
  refine QdF ?_
  refine Qc4 ?_;intro c8 h8
  refine Qq ?_
  obtain ⟨rfl,g8⟩|⟨rfl,g8⟩:=Za h8
  ·skip
   refine Qa2 ?_
   refine Qaa ?_
   refine Xk Y ?_ by7 by5
   clear HG HN;first|(simp_all;done)|(simp_all;omega)|grind
  skip
  refine Qd ?_
  refine QfD ?_
  refine Zm 13 Y Y Y Y Y (Zl (xs:=[.tmp 12]) Y Y (HG) by3 ?_);intro c13 h13
  refine Qq ?_
  obtain ⟨rfl,g13⟩|⟨rfl,g13⟩:=Za h13
  ·skip
   refine Qaa ?_
   refine Xk Y ?_ by7 by5
   clear HG HN;first|(simp_all;done)|(simp_all;omega)|grind
  skip
  refine Qd ?_
  refine Zm 17 Y Y Y Y Y (Zl (xs:=[.tmp 16]) Y Y (HN by18) by3 ?_);intro c17 h17
  refine QM ?_
  refine Xk Y ?_ by7 by5
  clear HG HN;first|(simp_all;done)|(simp_all;omega)|grind
 intro c2 h2
 refine QX ?_
 exact Zg Y Y (Xg _) by5 ⟨⟨_,h2.trans hu.symm,Y⟩,Y⟩
def lowP (s:ByteArray):Prop:=s≠kE∧s.size≤40∧(∃ b,s[0]?=some b∧smallC b.toNat=true)∧namesP s∧¬ keyT s=true∧s≠kUn
theorem IsLow_c (s:ByteArray):BCall Tryz.prog 47 [.val (.string s)] (lowP s):=by
 have HK:=Key_c s
 have HN:=fun h=>names_c s h
 by_cases h0:s.size=0
 ·obtain rfl:s=kE:=by
   obtain ⟨⟨l⟩⟩:=s
   cases l with
   | nil=>rfl
   | cons x l=>exact absurd h0 (by show ¬ (l.length+1=0);omega)
  refine Zc Tryz.func47 Y (by kernel_rfl) Y (Xm Y) ?_
  refine Qbc ?_
  refine Zx 2 (False) ?_ _ _ Y ?_
  ·skip
   refine Qb ?_
   refine QcI ?_;intro c4 h4
   refine Qb ?_
   obtain ⟨rfl,g4⟩|⟨rfl,g4⟩:=Za h4
   ·skip
    refine Qa2 ?_
    refine Qa2 ?_
    refine Qbd ?_
    refine Qa2 ?_
    refine Qaa ?_
    refine Xk Y ?_ by7 by5
    simp
   exact absurd Y g4
  intro c2 h2
  refine QX ?_
  exact Zg Y Y (Xg _) by5 ⟨⟨_,h2.trans ⟨False.elim,fun q=>q.1 Y⟩,Y⟩,Y⟩
 obtain ⟨b,hb⟩:=byte_get (s:=s) (i:=0) by18
 have HG:=small_c b.toNat
 have hne:s≠kE:=fun q=>h0 (by rw [q];rfl)
 have hu:lowP s↔s.size≤40∧smallC b.toNat=true∧namesP s∧¬ keyT s=true∧s≠kUn:=by
  unfold lowP
  rw [hb]
  constructor
  ·rintro ⟨_,h1,⟨c,hc,h2⟩,h3⟩
   cases hc
   exact ⟨h1,h2,h3⟩
  rintro ⟨h1,h2,h3⟩
  exact ⟨hne,h1,⟨_,Y,h2⟩,h3⟩
 refine Zc Tryz.func47 Y (by kernel_rfl) Y (Xm Y) ?_
 refine Qbc ?_
 refine Zx 2 (s.size≤40∧smallC b.toNat=true∧namesP s∧¬ keyT s=true∧s≠kUn) ?_ _ _ Y ?_
 ·skip
  refine Qb ?_
  refine QcI ?_;intro c4 h4
  refine Qb ?_
  obtain ⟨rfl,g4⟩|⟨rfl,g4⟩:=Za h4
  ·skip
   refine Qa2 ?_
   refine Qa2 ?_
   refine Qbd ?_
   refine Qa2 ?_
   refine Qaa ?_
   refine Xk Y ?_ by7 by5
   clear HG HN HK hu;first|(simp_all;done)|(simp_all;omega)|grind
  skip
  refine Qd ?_
  refine QdF ?_
  refine Qc4 ?_;intro c8 h8
  refine Qq ?_
  obtain ⟨rfl,g8⟩|⟨rfl,g8⟩:=Za h8
  ·skip
   refine Qa2 ?_
   refine Qbd ?_
   refine Qa2 ?_
   refine Qaa ?_
   refine Xk Y ?_ by7 by5
   clear HG HN HK hu;first|(simp_all;done)|(simp_all;omega)|grind
  skip
  refine Qd ?_
  refine QfD ?_
  refine Zm 13 Y Y Y Y Y (Zl (xs:=[.tmp 12]) Y Y (HG) by3 ?_);intro c13 h13
  refine Qq ?_
  obtain ⟨rfl,g13⟩|⟨rfl,g13⟩:=Za h13
  ·skip
   refine Qbd ?_
   refine Qa2 ?_
   refine Qaa ?_
   refine Xk Y ?_ by7 by5
   clear HG HN HK hu;first|(simp_all;done)|(simp_all;omega)|grind
  skip
  refine Qd ?_
  refine Zm 17 Y Y Y Y Y (Zl (xs:=[.tmp 16]) Y Y (HN by18) by3 ?_);intro c17 h17
  refine Qq ?_
  obtain ⟨rfl,g17⟩|⟨rfl,g17⟩:=Za h17
  ·skip
   refine Qa2 ?_
   refine Qaa ?_
   refine Xk Y ?_ by7 by5
   clear HG HN HK hu;first|(simp_all;done)|(simp_all;omega)|grind
  skip
  refine Qd ?_
  refine Zm 21 Y Y Y Y Y (Zl (xs:=[.tmp 20]) Y Y (HK) by3 ?_);intro c21 h21
  refine Qa5 ?_;intro c22 h22
  try replace h22:=nott h22 h21
  refine Qq ?_
  obtain ⟨rfl,g22⟩|⟨rfl,g22⟩:=Za h22
  ·skip
   refine Qaa ?_
   refine Xk Y ?_ by7 by5
   clear HG HN HK hu;first|(simp_all;done)|(simp_all;omega)|grind
  skip
  refine Qd ?_
  refine QcH ?_;intro c26 h26
  refine QM ?_
  refine Xk Y ?_ by7 by5
  clear HG HN HK hu;first|(simp_all;done)|(simp_all;omega)|grind
 intro c2 h2
 refine QX ?_
 exact Zg Y Y (Xg _) by5 ⟨⟨_,h2.trans hu.symm,Y⟩,Y⟩
theorem ups_c (l:List ByteArray):BCall Tryz.prog 46 [.seq 1 (strs l)] (∀ s∈l,upP s):=by
 have hl:=Yz l
 refine Zc Tryz.func46 Y (by kernel_rfl) Y (Xm Y) ?_
 refine Q5 ?_
 refine c_lens (t:=0) Y (.seq _ _) (fun hmax=>?_)
 refine Qcm ?_
 refine Q3 ?_
 apply Zy (rg [(1,15)]) (σ:=Nat) (fun zz=>match zz with|i=>[(3,.val (.int .i64 i))]) (fun zz=>match zz with|i=>i≤l.length∧∀ s∈l.take i,upP s) (fun zz=>match zz with|i=>l.length - i) (0)
 ·repeat' (first|exact Xp|apply Xn rfl|apply Xo rfl)
 ·exact ⟨Nat.zero_le _,by simp⟩
 ·exact by6
 rintro i hI
 try dsimp only [List.cons_append,List.nil_append] at hI ⊢
 obtain ⟨hi,hn⟩:=hI
 refine Qal ?_
 refine Qa4 ?_;intro n6
 refine Qk ?_;intro c7 h7
 refine Qa ?_
 obtain ⟨rfl,g7⟩|⟨rfl,g7⟩:=Za h7
 ·refine QaM ?_
  rw [List.take_of_length_le by18] at hn
  exact Zg Y Y (Xg _) by5 ⟨⟨_,iff_t hn,Y⟩,Y⟩
 refine Qx ?_
 obtain ⟨q,hxq⟩:=Zo (l:=l) (i:=i) by9
 have hcq:=strs_get hxq
 have hmq:=Xq hxq
 have HU:=IsUp_c q
 have hsn:=Yg hxq
 refine QF ?_
 refine QdS ?_
 refine QbG ?_
 refine Zb 14 Y Y Y (Zl (xs:=[.tmp 13]) Y Y (HU) by3 ?_);intro c14 h14
 refine Qaj ?_;intro c15 h15
 try replace h15:=nott h15 h14
 refine Qa ?_
 obtain ⟨rfl,g15⟩|⟨rfl,g15⟩:=Za h15
 ·refine Q8 ?_
  exact ⟨i+1,⟨by show i+1≤l.length;omega,fun c hc=>by
   rw [hsn] at hc
   rcases List.mem_append.1 hc with hc|hc
   ·exact hn c hc
   rw [List.mem_singleton] at hc;subst hc;exact Classical.not_not.1 g15⟩,by show l.length - (i+1)<l.length - i;omega,by6,by5⟩
 refine Qr ?_
 exact Zg Y Y (Xg _) by5 ⟨⟨_,Yw (fun h=>g15 (h _ hmq)),Y⟩,Y⟩
abbrev kArr:ByteArray:=⟨#[45,62]⟩
mutual
def Ty.good:Ty→Prop
 | .mk k s n ks=>Ty.goods ks∧n=0∧((k=1∧lowP s∧ks.length=0)∨(k=3∧(upP s∨(s=kArr∧ks.length=2))))
def Ty.goods:List Ty→Prop
 | []=>True
 | x::l=>x.good∧Ty.goods l
end
theorem Ty.goods_iff:∀ l:List Ty,Ty.goods l↔∀ x∈l,x.good
 | []=>by rw [Ty.goods];exact ⟨fun _ x h=>by simp at h,fun _=>trivial⟩
 | x::l=>by
  rw [Ty.goods,Ty.goods_iff l]
  exact ⟨fun h y hy=>(List.mem_cons.1 hy).elim (fun e=>e ▸ h.1) (h.2 y),fun h=>⟨h x by19,fun y hy=>h y (by simp [hy])⟩⟩
theorem GoodType_c (t:Ty):BCall Tryz.prog 48 [.agg t.cells] t.good:=by
 obtain ⟨tk,ts,tn,ks⟩:=t
 have IH:∀ x∈ks,BCall Tryz.prog 48 [.agg x.cells] x.good:=fun x hx=>GoodType_c x
 have HL:=IsLow_c ts
 have HU:=IsUp_c ts
 have hl:=Ty.cellss_len ks
 rw [Ty.good,Ty.goods_iff]
 refine Zc Tryz.func48 Y (by kernel_rfl) Y (Xm Y) ?_
 refine Q5 ?_
 refine c_lena (t:=0) (j:=3) Y Y (.seq _ _) (fun hmax=>?_)
 refine Qo ?_
 refine Qc3 ?_
 refine Qaw ?_
 refine Q3 ?_
 apply Zy (rg [(0,1),(2,16)]) (σ:=Nat) (fun zz=>match zz with|i=>[(3,.val (.int .i64 i))]) (fun zz=>match zz with|i=>i≤ks.length∧∀ x∈ks.take i,x.good) (fun zz=>match zz with|i=>ks.length - i) (0)
 ·repeat' (first|exact Xp|apply Xn rfl|apply Xo rfl)
 ·exact ⟨Nat.zero_le _,by simp⟩
 ·exact by6
 rintro i hI
 try dsimp only [List.cons_append,List.nil_append] at hI ⊢
 obtain ⟨hi,hn⟩:=hI
 refine QO ?_
 refine QW ?_;intro n7
 refine Qk ?_;intro c8 h8
 refine Qa ?_
 obtain ⟨rfl,g8⟩|⟨rfl,g8⟩:=Za h8
 ·refine Qbp ?_
  rw [List.take_of_length_le by18] at hn
  refine Qi ?_
  refine Qy ?_
  refine Qao ?_;intro c20 h20
  refine Qa ?_
  obtain ⟨rfl,g20⟩|⟨rfl,g20⟩:=Za h20
  ·refine Q7 ?_
   refine Q4 ?_
   refine Qj ?_;intro c23 h23
   refine Qa ?_
   obtain ⟨rfl,g23⟩|⟨rfl,g23⟩:=Za h23
   ·refine Q7 ?_
    refine Zx 2 (tk=3∧(upP ts∨(ts=kArr∧ks.length=2))) ?_ _ _ Y ?_
    ·skip
     refine Qy ?_
     refine Qj ?_;intro c35 h35
     refine Qb ?_
     obtain ⟨rfl,g35⟩|⟨rfl,g35⟩:=Za h35
     ·skip
      refine Qm ?_
      refine Qa8 ?_
      refine Qa8 ?_
      refine QcY ?_
      refine QZ ?_
      refine QM ?_
      refine Xk Y ?_ by7 by5
      clear HL HU IH hn;first|(simp_all;done)|(simp_all;omega)|grind
     skip
     refine QC ?_
     refine Zm 39 Y Y Y Y Y (Zl (xs:=[.tmp 38]) Y Y (HU) by3 ?_);intro c39 h39
     refine Qd ?_
     obtain ⟨rfl,g39⟩|⟨rfl,g39⟩:=Za h39
     ·skip
      refine QC ?_
      refine Qd0 ?_;intro c43 h43
      refine Qd ?_
      obtain ⟨rfl,g43⟩|⟨rfl,g43⟩:=Za h43
      ·skip
       refine Qm ?_
       refine Qb0 ?_
       refine Xk Y ?_ by7 by5
       clear HL HU IH hn;first|(simp_all;done)|(simp_all;omega)|grind
      skip
      refine QC ?_
      refine Zm 47 Y Y Y Y Y (Yk Y tu_44 Y (.seq _ _) (fun n47=>?_))
      refine Qan ?_;intro c48 h48
      refine Qb0 ?_
      refine Xk Y ?_ by7 by5
      clear HL HU IH hn;first|(simp_all;done)|(simp_all;omega)|grind
     skip
     refine Qm ?_
     refine Qa8 ?_
     refine Qbw ?_
     refine QM ?_
     refine Xk Y ?_ by7 by5
     clear HL HU IH hn;first|(simp_all;done)|(simp_all;omega)|grind
    intro c2 h2
    refine QX ?_
    exact Zg Y Y (Xg _) by5 ⟨⟨_,h2.trans ⟨fun q=>⟨hn,Classical.not_not.1 g20,.inr q⟩,fun q=>q.2.2.elim (fun r=>absurd r.1 g23) id⟩,Y⟩,Y⟩
   refine QaG ?_
   refine Zx 2 (lowP ts∧ks.length=0) ?_ _ _ Y ?_
   ·skip
    refine Qy ?_
    refine Zb 26 Y Y Y (Zl (xs:=[.tmp 25]) Y Y (HL) by3 ?_);intro c26 h26
    refine Qb ?_
    obtain ⟨rfl,g26⟩|⟨rfl,g26⟩:=Za h26
    ·skip
     refine Qm ?_
     refine QM ?_
     refine Xk Y ?_ by7 by5
     clear HL HU IH hn;first|(simp_all;done)|(simp_all;omega)|grind
    skip
    refine QC ?_
    refine Zm 30 Y Y Y Y Y (Yk Y tu_44 Y (.seq _ _) (fun n30=>?_))
    refine Qan ?_;intro c31 h31
    refine QM ?_
    refine Xk Y ?_ by7 by5
    clear HL HU IH hn;first|(simp_all;done)|(simp_all;omega)|grind
   intro c2 h2
   refine QX ?_
   exact Zg Y Y (Xg _) by5 ⟨⟨_,h2.trans ⟨fun q=>⟨hn,Classical.not_not.1 g20,.inl ⟨g23,q⟩⟩,fun q=>q.2.2.elim (fun r=>r.2) (fun r=>absurd (g23.symm.trans r.1) by17)⟩,Y⟩,Y⟩
  refine Qr ?_
  exact Zg Y Y (Xg _) by5 ⟨⟨_,Yw (fun h=>g20 h.2.1),Y⟩,Y⟩
 refine Qx ?_
 obtain ⟨⟨qk,qs,qn,ql⟩,hxq⟩:=Zo (l:=ks) (i:=i) by9
 have hcq:=Ty.cellss_get hxq
 have hmq:=Xq hxq
 have HQ:=IH _ hmq
 have hsn:=Yg hxq
 refine Qi ?_
 refine Qay ?_
 refine Zb 14 Y Y Y (Zq Y te_44 Y (.seq _ _) Y Y (hcq) ?_)
 refine QfE ?_
 refine Zb 16 Y Y Y (Zl (xs:=[.tmp 15]) Y Y (HQ) by3 ?_);intro c16 h16
 refine Qaj ?_;intro c17 h17
 try replace h17:=nott h17 h16
 refine Qa ?_
 obtain ⟨rfl,g17⟩|⟨rfl,g17⟩:=Za h17
 ·refine Q8 ?_
  exact ⟨i+1,⟨by show i+1≤ks.length;omega,fun c hc=>by
   rw [hsn] at hc
   rcases List.mem_append.1 hc with hc|hc
   ·exact hn c hc
   rw [List.mem_singleton] at hc;subst hc;exact Classical.not_not.1 g17⟩,by show ks.length - (i+1)<ks.length - i;omega,by6,by5⟩
 refine Qr ?_
 exact Zg Y Y (Xg _) by5 ⟨⟨_,Yw (fun h=>g17 (h.1 _ hmq)),Y⟩,Y⟩
termination_by SizeOf.sizeOf t
decreasing_by
 have:=List.sizeOf_lt_of_mem hx
 simp;omega
def gdP (d:Da):Prop:=upP d.s∧d.cs.length≠0∧(∀ s∈d.dv,upP s)∧(∀ s∈d.ps,lowP s)∧∀ c∈d.cs,upP c.s∧∀ t∈c.ts,t.good
theorem GoodData_c (d:Da):BCall Tryz.prog 20 [.agg d.cells] (gdP d):=by
 have HU:=IsUp_c d.s
 have HV:=ups_c d.dv
 obtain ⟨ds,dps,dcs,ddv,dp⟩:=d
 show BCall Tryz.prog _ _ (upP ds∧dcs.length≠0∧(∀ s∈ddv,upP s)∧(∀ s∈dps,lowP s)∧∀ c∈dcs,upP c.s∧∀ t∈c.ts,t.good)
 replace HU:BCall Tryz.prog 45 [.val (.string ds)] (upP ds):=HU
 replace HV:BCall Tryz.prog 46 [.seq 1 (strs ddv)] (∀ s∈ddv,upP s):=HV
 have hlc:=Cn.cellss_len dcs
 have hlp:=Yz dps
 refine Zc Tryz.func20 Y (by kernel_rfl) Y (Xm Y) ?_
 refine Q5 ?_
 refine c_lena (t:=0) (j:=1) Y Y (.seq _ _) (fun hmax=>?_)
 refine c_lena (t:=0) (j:=2) Y Y (.seq _ _) (fun hmax2=>?_)
 refine Qo ?_
 refine QaU ?_
 refine Qba ?_
 refine Zx 21 (¬ (upP ds∧dcs.length≠0∧∀ s∈ddv,upP s)) ?_ _ _ Y ?_
 ·skip
  refine Qy ?_
  refine Zb 8 Y Y Y (Zl (xs:=[.tmp 7]) Y Y (HU) by3 ?_);intro c8 h8
  refine Qaj ?_;intro c9 h9
  try replace h9:=nott h9 h8
  refine Qb ?_
  obtain ⟨rfl,g9⟩|⟨rfl,g9⟩:=Za h9
  ·skip
   refine QC ?_
   refine QdC ?_;intro n13
   refine Qan ?_;intro c14 h14
   refine Qq ?_
   obtain ⟨rfl,g14⟩|⟨rfl,g14⟩:=Za h14
   ·skip
    refine QC ?_
    refine Zm 19 Y Y Y Y Y (Zl (xs:=[.tmp 18]) Y Y (HV) by3 ?_);intro c19 h19
    refine Qa5 ?_;intro c20 h20
    try replace h20:=nott h20 h19
    refine Qg ?_
    refine Xk Y ?_ by7 by5
    clear HU HV;first|(simp_all;done)|(simp_all;omega)|grind
   skip
   refine Qm ?_
   refine Qg ?_
   refine Xk Y ?_ by7 by5
   clear HU HV;first|(simp_all;done)|(simp_all;omega)|grind
  skip
  refine Qm ?_
  refine Q1 ?_
  refine Qg ?_
  refine Xk Y ?_ by7 by5
  clear HU HV;first|(simp_all;done)|(simp_all;omega)|grind
 intro c21 h21
 refine Qc ?_
 obtain ⟨rfl,g21⟩|⟨rfl,g21⟩:=Za h21
 ·refine Qci ?_
  apply Zy (rg [(0,1),(2,2),(6,30)]) (σ:=Nat) (fun zz=>match zz with|i=>[(3,.val (.int .i64 i))]) (fun zz=>match zz with|i=>i≤dps.length∧∀ s∈dps.take i,lowP s) (fun zz=>match zz with|i=>dps.length - i) (0)
  ·repeat' (first|exact Xp|apply Xn rfl|apply Xo rfl)
  ·exact ⟨Nat.zero_le _,by simp⟩
  ·exact by6
  rintro i hI
  try dsimp only [List.cons_append,List.nil_append] at hI ⊢
  obtain ⟨hi,hn⟩:=hI
  refine QO ?_
  refine Qa4 ?_;intro n25
  refine Qk ?_;intro c26 h26
  refine Qa ?_
  obtain ⟨rfl,g26⟩|⟨rfl,g26⟩:=Za h26
  ·refine Qbp ?_
   rw [List.take_of_length_le by18] at hn
   obtain ⟨e1,e2,e3⟩:=Classical.not_not.1 g21
   refine QbU ?_
   apply Zy (rg [(0,1),(2,71)]) (σ:=Nat) (fun zz=>match zz with|i=>[(4,.val (.int .i64 i))]) (fun zz=>match zz with|i=>i≤dcs.length∧∀ c∈dcs.take i,upP c.s∧∀ t∈c.ts,t.good) (fun zz=>match zz with|i=>dcs.length - i) (0)
   ·repeat' (first|exact Xp|apply Xn rfl|apply Xo rfl)
   ·exact ⟨Nat.zero_le _,by simp⟩
   ·exact by6
   rintro i hI
   try dsimp only [List.cons_append,List.nil_append] at hI ⊢
   obtain ⟨hi2,hn2⟩:=hI
   refine QO ?_
   refine Qbl ?_;intro n39
   refine Qk ?_;intro c40 h40
   refine Qa ?_
   obtain ⟨rfl,g40⟩|⟨rfl,g40⟩:=Za h40
   ·refine QE ?_
    rw [List.take_of_length_le by18] at hn2
    refine Qi ?_
    refine Qs ?_
    exact Zg Y Y (Xg _) by5 ⟨⟨_,iff_t ⟨e1,e2,e3,hn,hn2⟩,Y⟩,Y⟩
   refine Qae ?_
   refine QL ?_
   obtain ⟨⟨qs,qts,qp⟩,hxq⟩:=Zo (l:=dcs) (i:=i) by9
   have hcq:=Cn.cellss_get hxq
   have hmq:=Xq hxq
   have HUq:=IsUp_c qs
   have hsn:=Yg hxq
   have hlt:=Ty.cellss_len qts
   refine Qi ?_
   refine Qay ?_
   refine Qdb ?_
   refine Qy ?_
   refine Zb 49 Y Y Y (Zl (xs:=[.tmp 48]) Y Y (HUq) by3 ?_);intro c49 h49
   refine Qaj ?_;intro c50 h50
   try replace h50:=nott h50 h49
   refine Qa ?_
   obtain ⟨rfl,g50⟩|⟨rfl,g50⟩:=Za h50
   ·refine QN ?_
    refine Q3 ?_
    apply Zy (rg [(0,1),(2,2),(5,31),(51,22)]) (σ:=Nat) (fun zz=>match zz with|j=>[(5,.val (.int .i64 j))]) (fun zz=>match zz with|j=>j≤qts.length∧∀ t∈qts.take j,t.good) (fun zz=>match zz with|j=>qts.length - j) (0)
    ·repeat' (first|exact Xp|apply Xn rfl|apply Xo rfl)
    ·exact ⟨Nat.zero_le _,by simp⟩
    ·exact by6
    rintro j hI
    try dsimp only [List.cons_append,List.nil_append] at hI ⊢
    obtain ⟨hj,hn3⟩:=hI
    refine QO ?_
    refine Qb ?_
    refine Qdb ?_
    refine Qy ?_
    refine QW ?_;intro n58
    refine Qk ?_;intro c59 h59
    refine Qa ?_
    obtain ⟨rfl,g59⟩|⟨rfl,g59⟩:=Za h59
    ·refine QH ?_
     refine c_exit (x_code (x_lp (x_here ?_)))
     refine Qaq ?_
     rw [List.take_of_length_le by18] at hn3
     exact ⟨i+1,⟨by show i+1≤dcs.length;omega,fun c hc=>by
      rw [hsn] at hc
      rcases List.mem_append.1 hc with hc|hc
      ·exact hn2 c hc
      rw [List.mem_singleton] at hc;subst hc;exact ⟨Classical.not_not.1 g50,hn3⟩⟩,by show dcs.length - (i+1)<dcs.length - i;omega,by6,by5⟩
    refine Qx ?_
    obtain ⟨⟨zk,zs,zn,zl⟩,hxz⟩:=Zo (l:=qts) (i:=j) by9
    have hcz:=Ty.cellss_get hxz
    have hmz:=Xq hxz
    have HTz:=GoodType_c ⟨zk,zs,zn,zl⟩
    have hsn3:=Yg hxz
    refine Qi ?_
    refine Qay ?_
    refine Zb 65 Y Y Y (Zq Y te_32 Y (.seq _ _) Y Y (by first|exact hcq|exact hcz) ?_)
    refine Qay ?_
    refine Zb 69 Y Y Y (Zq Y te_44 Y (.seq _ _) Y Y (by first|exact hcq|exact hcz) ?_)
    refine QfE ?_
    refine Zb 71 Y Y Y (Zl (xs:=[.tmp 70]) Y Y (HTz) by3 ?_);intro c71 h71
    refine Qaj ?_;intro c72 h72
    try replace h72:=nott h72 h71
    refine Qa ?_
    obtain ⟨rfl,g72⟩|⟨rfl,g72⟩:=Za h72
    ·refine Q8 ?_
     exact ⟨j+1,⟨by show j+1≤qts.length;omega,fun c hc=>by
      rw [hsn3] at hc
      rcases List.mem_append.1 hc with hc|hc
      ·exact hn3 c hc
      rw [List.mem_singleton] at hc;subst hc;exact Classical.not_not.1 g72⟩,by show qts.length - (j+1)<qts.length - j;omega,by6,by5⟩
    refine Qr ?_
    exact Zg Y Y (Xg _) by5 ⟨⟨_,Yw (fun h=>g72 ((h.2.2.2.2 _ hmq).2 _ hmz)),Y⟩,Y⟩
   refine Qr ?_
   exact Zg Y Y (Xg _) by5 ⟨⟨_,Yw (fun h=>g50 (h.2.2.2.2 _ hmq).1),Y⟩,Y⟩
  refine Qx ?_
  obtain ⟨q,hxq⟩:=Zo (l:=dps) (i:=i) by9
  have hcq:=strs_get hxq
  have hmq:=Xq hxq
  have HL:=IsLow_c q
  have hsn:=Yg hxq
  refine Qi ?_
  refine Qay ?_
  refine QdS ?_
  refine QbG ?_
  refine Zb 34 Y Y Y (Zl (xs:=[.tmp 33]) Y Y (HL) by3 ?_);intro c34 h34
  refine Qaj ?_;intro c35 h35
  try replace h35:=nott h35 h34
  refine Qa ?_
  obtain ⟨rfl,g35⟩|⟨rfl,g35⟩:=Za h35
  ·refine Q8 ?_
   exact ⟨i+1,⟨by show i+1≤dps.length;omega,fun c hc=>by
    rw [hsn] at hc
    rcases List.mem_append.1 hc with hc|hc
    ·exact hn c hc
    rw [List.mem_singleton] at hc;subst hc;exact Classical.not_not.1 g35⟩,by show dps.length - (i+1)<dps.length - i;omega,by6,by5⟩
  refine Qr ?_
  exact Zg Y Y (Xg _) by5 ⟨⟨_,Yw (fun h=>g35 (h.2.2.2.1 _ hmq)),Y⟩,Y⟩
 refine Qr ?_
 exact Zg Y Y (Xg _) by5 ⟨⟨_,Yw (fun h=>g21 ⟨h.1,h.2.1,h.2.2.1⟩),Y⟩,Y⟩
def smP (d:Da):Prop:=gdP d∧d.cs.length≤6∧d.ps.length≤6∧∀ c∈d.cs,c.ts.length≤8
theorem small18_c (d:Da):BCall Tryz.prog 6 [.agg d.cells] (smP d):=by
 have HG:=GoodData_c d
 unfold smP
 generalize gdP d=gd at *
 obtain ⟨ds,dps,dcs,ddv,dp⟩:=d
 show BCall Tryz.prog _ _ (gd∧dcs.length≤6∧dps.length≤6∧∀ c∈dcs,c.ts.length≤8)
 have hlc:=Cn.cellss_len dcs
 have hlp:=Yz dps
 simp only [Da.cells] at HG ⊢
 refine Zc Tryz.func6 Y (by kernel_rfl) Y (Xm Y) ?_
 refine Q5 ?_
 refine c_lena (t:=0) (j:=2) Y Y (.seq _ _) (fun hmax=>?_)
 refine Qo ?_
 refine QaU ?_
 refine Qba ?_
 refine Zx 19 (¬ (gd∧dcs.length≤6∧dps.length≤6)) ?_ _ _ Y ?_
 ·skip
  refine QbK ?_
  refine Zb 6 Y Y Y (Zl (xs:=[.tmp 5]) Y Y (HG) by3 ?_);intro c6 h6
  refine Qaj ?_;intro c7 h7
  try replace h7:=nott h7 h6
  refine Qb ?_
  obtain ⟨rfl,g7⟩|⟨rfl,g7⟩:=Za h7
  ·skip
   refine QC ?_
   refine QdC ?_;intro n11
   refine QcJ ?_;intro c12 h12
   refine Qq ?_
   obtain ⟨rfl,g12⟩|⟨rfl,g12⟩:=Za h12
   ·skip
    refine QC ?_
    refine Zm 17 Y Y Y Y Y (Yk Y tu_31 Y (.seq _ _) (fun n17=>?_))
    refine QcJ ?_;intro c18 h18
    refine Qg ?_
    refine Xk Y ?_ by7 by5
    clear HG;first|(simp_all;done)|(simp_all;omega)|grind
   skip
   refine Qm ?_
   refine Qg ?_
   refine Xk Y ?_ by7 by5
   clear HG;first|(simp_all;done)|(simp_all;omega)|grind
  skip
  refine Qm ?_
  refine Q1 ?_
  refine Qg ?_
  refine Xk Y ?_ by7 by5
  clear HG;first|(simp_all;done)|(simp_all;omega)|grind
 intro c19 h19
 refine Qc ?_
 obtain ⟨rfl,g19⟩|⟨rfl,g19⟩:=Za h19
 ·refine Q7 ?_
  refine Q4 ?_
  refine Qbl ?_;intro n22
  refine QaN ?_
  apply Zy (rg [(0,21),(23,9)]) (σ:=Nat) (fun zz=>match zz with|i=>[(23,.val (.int .i64 i))]) (fun zz=>match zz with|i=>i≤dcs.length∧∀ c∈dcs.take i,c.ts.length≤8) (fun zz=>match zz with|i=>dcs.length - i) (0)
  ·repeat' (first|exact Xp|apply Xn rfl|apply Xo rfl)
  ·exact ⟨Nat.zero_le _,by simp⟩
  ·exact by6
  rintro i hI
  try dsimp only [List.cons_append,List.nil_append] at hI ⊢
  obtain ⟨hi,hn⟩:=hI
  refine QaO ?_;intro c24 h24
  refine Qv ?_
  obtain ⟨rfl,g24⟩|⟨rfl,g24⟩:=Za h24
  ·refine QE ?_
   rw [List.take_of_length_le by18] at hn
   obtain ⟨e1,e2,e3⟩:=Classical.not_not.1 g19
   refine Qi ?_
   refine Qs ?_
   exact Zg Y Y (Xg _) by5 ⟨⟨_,iff_t ⟨e1,e2,e3,hn⟩,Y⟩,Y⟩
  refine Qx ?_
  obtain ⟨⟨qs,qts,qp⟩,hxq⟩:=Zo (l:=dcs) (i:=i) by9
  have hcq:=Cn.cellss_get hxq
  have hmq:=Xq hxq
  have hsn:=Yg hxq
  have hlt:=Ty.cellss_len qts
  refine Qi ?_
  refine Qdb ?_
  refine QcN ?_
  refine Qcb ?_;intro b4
  refine Qcc ?_
  refine Qbq ?_
  refine QW ?_;intro n29
  refine Q0 ?_;intro c30 h30
  refine Qa ?_
  obtain ⟨rfl,g30⟩|⟨rfl,g30⟩:=Za h30
  ·refine Qau ?_
   refine Qax ?_
   exact ⟨i+1,⟨by show i+1≤dcs.length;omega,fun c hc=>by
    rw [hsn] at hc
    rcases List.mem_append.1 hc with hc|hc
    ·exact hn c hc
    rw [List.mem_singleton] at hc;subst hc;show qts.length≤8;omega⟩,by show dcs.length - (i+1)<dcs.length - i;omega,by6,by5⟩
  refine Qr ?_
  exact Zg Y Y (Xg _) by5 ⟨⟨_,Yw (fun h=>by have:qts.length≤8:=h.2.2.2 _ hmq;omega),Y⟩,Y⟩
 refine Qr ?_
 exact Zg Y Y (Xg _) by5 ⟨⟨_,Yw (fun h=>g19 ⟨h.1,h.2.1,h.2.2.1⟩),Y⟩,Y⟩
theorem smP.dtg {d:Da} (h:smP d):DtG d.cs:=by
 obtain ⟨⟨_,h1,_,_,h2⟩,h3,_,h4⟩:=h
 exact ⟨fun q=>h1 (by rw [q];rfl),h3,fun c hc=>⟨(h2 c hc).1.gn,h4 c hc⟩,fun c hc=>(h2 c hc).1.1⟩
theorem smP.ps {d:Da} (h:smP d):d.ps.length≤1000000:=by
 obtain ⟨_,_,h1,_⟩:=h
 omega
abbrev kA1:ByteArray:=⟨#[65]⟩
abbrev kB1:ByteArray:=⟨#[66]⟩
abbrev kT1:ByteArray:=⟨#[84]⟩
def daT:Da:=.mk kT1 [] [.mk kA1 [] 0,.mk kB1 [] 0] [] 0
theorem daT_s:DaS daT:=⟨by decide,by decide,fun c hc=>by
 simp only [daT,Da.cs,List.mem_cons,List.not_mem_nil,or_false] at hc
 rcases hc with rfl|rfl <;> exact ⟨by decide,by decide⟩⟩
theorem daT_inst:∃ p0 e0 p1 a1 a2,instR daT kcEq=(In.mk kcEq (.mk 3 kT1 0 []) [] [.mk kEqN (.mk 6 kX 0 ty0 [.mk 6 kY 0 ty0 [.mk 8 kE 0 ty0 [namE 3 kX 0] [.mk p0 e0,.mk p1 (.mk 8 kE 0 ty0 [namE 3 kY 0] [a1,a2] [] 0)] [] 0] [] [] 0] [] [] 0) 0] 0,0):=by
 unfold instR bindX
 rw [if_pos rfl]
 exact ⟨_,_,_,_,_,Y⟩
theorem awake18_c:PCall Tryz.prog 4 [] (.val (.bool true)):=by
 have HI:=Inst_c daT daT_s kcEq
 obtain ⟨⟨p0k,p0s,p0n,p0l,p0p⟩,⟨e0k,e0s,e0n,⟨e0tk,e0ts,e0tn,e0tl⟩,e0ks,e0al,e0bs,e0p⟩,⟨p1k,p1s,p1n,p1l,p1p⟩,⟨⟨b1k,b1s,b1n,b1l,b1p⟩,⟨c1k,c1s,c1n,⟨c1tk,c1ts,c1tn,c1tl⟩,c1ks,c1al,c1bs,c1p⟩⟩,⟨⟨b2k,b2s,b2n,b2l,b2p⟩,⟨c2k,c2s,c2n,⟨c2tk,c2ts,c2tn,c2tl⟩,c2ks,c2al,c2bs,c2p⟩⟩,he⟩:=daT_inst
 rw [he] at HI
 clear he
 have f1:∀ l:List Bi,(Bi.cellss l).length=l.length:=Bi.cellss_len
 have f2:∀ l:List Ex,(Ex.cellss l).length=l.length:=Ex.cellss_len
 have f3:∀ l:List Al,(Al.cellss l).length=l.length:=Al.cellss_len
 refine Zc Tryz.func4 Y (by kernel_rfl) Y (Xm Y) ?_
 refine Qa7 ?_
 refine Qo ?_
 refine Zb 5 Y Y Y (Zk (ns:=[0]) (xs:=[.const (.string ⟨#[65]⟩)]) Y tz_54 Y tfl_54 Y Y Y Y ?_)
 refine Zb 6 Y Y Y (Zk (ns:=[0]) (xs:=[.const (.string ⟨#[66]⟩)]) Y tz_54 Y tfl_54 Y Y Y Y ?_)
 refine Zb 7 Y Y Y (Zd (xs:=[.tmp 5,.tmp 6]) el_32 Y Y Y Y Y Y (Xm Y) (Zb 8 Y Y Y (Zk (ns:=[0,2]) (xs:=[.const (.string ⟨#[84]⟩),.tmp 7]) Y tz_34 Y tfl_34 Y Y Y Y ?_)))
 refine Zb 9 Y Y Y (Ze (xs:=[.tmp 8,.const (.string ⟨#[69,113]⟩)]) Y Y (HI) (by repeat' (first|exact Xh _|refine Xi ?_ ?_|exact Xg _|exact Le.own _ _ _|exact Le.nil _|refine Le.agg ?_|refine Le.own_seqL ?_|refine Le.seq ?_|exact Less.refl _|exact Less.nil|refine Less.cons ?_ Y ?_)) ?_)
 refine Qbf ?_
 refine QcX ?_;intro b1
 refine Qdq ?_
 refine Qba ?_
 refine Zx 27 (False) ?_ _ _ Y ?_
 ·skip
  refine Qb ?_
  refine Qao ?_;intro c13 h13
  refine Qb ?_
  obtain ⟨rfl,g13⟩|⟨rfl,g13⟩:=Za h13
  ·skip
   refine QaZ ?_
   refine Qeq ?_;intro n17
   refine QaD ?_;intro c18 h18
   refine Qq ?_
   obtain ⟨rfl,g18⟩|⟨rfl,g18⟩:=Za h18
   ·skip
    refine QaZ ?_
    refine Zm 23 Y Y Y Y Y (Zq (i:=0) Y te_26 Y (.seq _ _) Y Y (by first|rfl|assumption) ?_)
    refine QC ?_
    refine QcH ?_;intro c26 h26
    refine Qg ?_
    refine Xk Y ?_ by7 by5
    simp_all;done
   skip
   refine Qm ?_
   refine Qai ?_
   refine Xk Y ?_ by7 by5
   simp_all;done
  skip
  refine Qm ?_
  refine Q1 ?_
  refine Qai ?_
  refine Xk Y ?_ by7 by5
  simp_all;done
 intro c27 h27
 refine Qc ?_
 obtain ⟨rfl,g27⟩|⟨rfl,g27⟩:=Za h27
 ·refine QN ?_
  refine Qbo ?_
  refine Zb 30 Y Y Y (Zq (i:=0) Y te_26 Y (.seq _ _) Y Y (by first|rfl|assumption) ?_)
  refine Qbi ?_
  refine Qbs ?_
  refine QI ?_;intro b3
  refine QS ?_
  refine Qv ?_
  refine Zx 0 (True) ?_ _ _ Y ?_
  ·skip
   refine Qar ?_
   refine Qj ?_;intro c35 h35
   refine Qb ?_
   obtain ⟨rfl,g35⟩|⟨rfl,g35⟩:=Za h35
   ·skip
    refine Qm ?_
    refine Qcg ?_
    refine Q1 ?_
    refine Qck ?_
    refine Q1 ?_
    refine Qm ?_
    refine Qm ?_
    refine Qaa ?_
    refine Xk Y ?_ by7 by5
    simp_all;done
   skip
   refine QaZ ?_
   refine Qdy ?_;intro n39
   refine Qan ?_;intro c40 h40
   refine Qq ?_
   obtain ⟨rfl,g40⟩|⟨rfl,g40⟩:=Za h40
   ·skip
    refine QbS ?_
    refine Q1 ?_
    refine Qck ?_
    refine Q1 ?_
    refine Qm ?_
    refine Qm ?_
    refine Qaa ?_
    refine Xk Y ?_ by7 by5
    simp_all;done
   skip
   refine QaZ ?_
   refine Qdr ?_
   refine QC ?_
   refine Qdy ?_;intro n48
   refine Qan ?_;intro c49 h49
   refine Qq ?_
   obtain ⟨rfl,g49⟩|⟨rfl,g49⟩:=Za h49
   ·skip
    refine Qm ?_
    refine Qck ?_
    refine Q1 ?_
    refine Qm ?_
    refine Qm ?_
    refine Qaa ?_
    refine Xk Y ?_ by7 by5
    simp_all;done
   skip
   refine QaZ ?_
   refine Qdr ?_
   refine QC ?_
   refine Qdr ?_
   refine QC ?_
   refine Qdz ?_;intro n60
   refine Qan ?_;intro c61 h61
   refine Qq ?_
   obtain ⟨rfl,g61⟩|⟨rfl,g61⟩:=Za h61
   ·skip
    refine Qm ?_
    refine Qm ?_
    refine Qm ?_
    refine Qaa ?_
    refine Xk Y ?_ by7 by5
    simp_all;done
   skip
   refine QaZ ?_
   refine Qdr ?_
   refine QC ?_
   refine Qdr ?_
   refine QC ?_
   refine Zm 72 Y Y Y Y Y (Zq (i:=1) Y te_56 Y (.seq _ _) Y Y (by first|rfl|assumption) ?_)
   refine QcZ ?_
   refine QC ?_
   refine Qdz ?_;intro n76
   refine Qan ?_;intro c77 h77
   refine QM ?_
   refine Xk Y ?_ by7 by5
   simp_all;done
  intro c0 h0
  refine QX ?_
  obtain rfl:c0=true:=h0.2 trivial
  exact Zg Y Y (Xg _) (Xb _) ⟨Y,Y⟩
 exact g27.elim
end Go.Proofs.YtefbicnoddggnaaGreat
namespace Go.Proofs.YtefbicnoddggnaaGreat
def sameB (a b:ByteArray):Bool:=decide (a=b)
theorem sameB_iff {a b:ByteArray}:sameB a b=true↔a=b:=by unfold sameB;simp
def hasB (l:List ByteArray) (s:ByteArray):Bool:=l.any (sameB s)
theorem hasB_iff {l:List ByteArray} {s:ByteArray}:hasB l s=true↔s∈l:=by
 unfold hasB
 rw [List.any_eq_true]
 constructor
 ·rintro ⟨x,hx,h⟩;rw [sameB_iff.1 h];exact hx
 intro h;exact ⟨s,h,sameB_iff.2 rfl⟩
def stripD:Da→Da|.mk s ps cs _ p=>.mk s ps cs [] p
def derL (d:Da):List ByteArray→List ByteArray→List In→List In × Int
 | _,[],acc=>(acc,0)
 | pre,c::l,acc=>if (instR d c).2≠0 then (acc,121) else if hasB pre c=true then (acc,120) else derL d (pre++[c]) l (acc++[(instR d c).1])
def allL:List Da→List In→List In × Int × Int
 | [],acc=>(acc,0,0)
 | d::l,acc=>if (derL d [] d.dv acc).2≠0 then ((derL d [] d.dv acc).1,(derL d [] d.dv acc).2,d.p) else allL l (derL d [] d.dv acc).1
def allR (p:Pg):Pg × Int × Int:=if (allL p.da p.ins).2.1≠0 then (pg0,(allL p.da p.ins).2) else (.mk (p.da.map stripD) p.cl (allL p.da p.ins).1 p.bs,0,0)
def InG (x:In):Prop:=(∀ b∈x.bs,b.e.pin x.p=b.e∧b.e.wid)∧x.bs.length≤1000
theorem instR_g {d:Da} {cl:ByteArray} (hg:DtG d.cs) (h:(instR d cl).2=0):InG (instR d cl).1:=by
 unfold InG instR at *
 cases hb:bindX d.p d.cs cl with
 | none=>rw [hb] at h;exact absurd (show (121:Int)=0 from h) by17
 | some x =>
  obtain ⟨nm,e⟩:=x
  refine ⟨fun b hm=>?_,Xm Y⟩
  rw [show (instX d cl nm e).bs=[.mk nm e d.p] from rfl,List.mem_singleton] at hm
  subst hm
  obtain ⟨y,q,_,h2,_⟩:=bindX_law hg hb
  refine ⟨?_,bindX_wid ⟨by have:=hg.len;omega,fun c hc=>by have:=(hg.cn c hc).2;omega⟩ hb⟩
  show e.pin d.p=e
  rw [← h2,Ex.pin_pin]
theorem instR_code {d:Da} {cl:ByteArray} (h:(instR d cl).2≠0):(instR d cl).2=121:=by
 unfold instR at *
 cases hb:bindX d.p d.cs cl with
 | none=>rfl
 | some x=>rw [hb] at h;exact absurd rfl h
theorem instR_three {d:Da} {cl:ByteArray} (h:(instR d cl).2=0):cl=kcEq∨cl=kcOrd∨cl=kcShow:=by
 unfold instR at h
 cases hb:bindX d.p d.cs cl with
 | none=>rw [hb] at h;exact absurd (show (121:Int)=0 from h) by17
 | some x =>
  unfold bindX at hb
  by_cases h1:cl=kcEq
  ·exact .inl h1
  by_cases h2:cl=kcOrd
  ·exact .inr (.inl h2)
  by_cases h3:cl=kcShow
  ·exact .inr (.inr h3)
  rw [if_neg h1,if_neg h2,if_neg h3] at hb;simp at hb
theorem derL_news {d:Da} (hg:DtG d.cs):∀ (l pre:List ByteArray) (acc:List In),∃ news,(derL d pre l acc).1=acc++news∧∀ x∈news,InG x
 | [],pre,acc=>⟨[],by simp [derL],by simp⟩
 | c::l,pre,acc=>by
  rw [derL]
  by_cases h1:(instR d c).2≠0
  ·rw [if_pos h1];exact ⟨[],by simp,by simp⟩
  rw [if_neg h1]
  by_cases h2:hasB pre c=true
  ·rw [if_pos h2];exact ⟨[],by simp,by simp⟩
  rw [if_neg h2]
  obtain ⟨news,e1,e2⟩:=derL_news hg l (pre++[c]) (acc++[(instR d c).1])
  refine ⟨(instR d c).1::news,by rw [e1];simp,fun x hx=>?_⟩
  rcases List.mem_cons.1 hx with rfl|hx
  ·exact instR_g hg (Classical.not_not.1 h1)
  exact e2 x hx
theorem allL_news:∀ (l:List Da) (acc:List In),(∀ d∈l,smP d)→∃ news,(allL l acc).1=acc++news∧∀ x∈news,InG x
 | [],acc,_=>⟨[],by simp [allL],by simp⟩
 | d::l,acc,h=>by
  rw [allL]
  obtain ⟨n1,e1,e2⟩:=derL_news (h d by19).dtg d.dv [] acc
  by_cases h1:(derL d [] d.dv acc).2≠0
  ·rw [if_pos h1];exact ⟨n1,e1,e2⟩
  rw [if_neg h1,e1]
  obtain ⟨n2,e3,e4⟩:=allL_news l (acc++n1) (fun x hx=>h x (by simp [hx]))
  refine ⟨n1++n2,by rw [e3];simp,fun x hx=>?_⟩
  rcases List.mem_append.1 hx with hx|hx
  ·exact e2 x hx
  exact e4 x hx
theorem three_le {α:Type} {a b c:α}:∀ l:List α,l.Nodup→(∀ x∈l,x=a∨x=b∨x=c)→l.length≤3
 | [],_,_=>by simp
 | [_],_,_=>by simp
 | [_,_],_,_=>by simp
 | [_,_,_],_,_=>by simp
 | x::y::z::w::l,hn,h=>by
  exfalso
  simp only [List.nodup_cons,List.mem_cons,not_or] at hn
  obtain ⟨⟨n1,n2,n3,_⟩,⟨n4,n5,_⟩,⟨n6,_⟩,_⟩:=hn
  rcases h x by19 with rfl|rfl|rfl <;> rcases h y by19 with rfl|rfl|rfl <;> first|exact n1 rfl|skip
  all_goals rcases h z by19 with rfl|rfl|rfl <;> first|exact n2 rfl|exact n4 rfl|skip
  all_goals rcases h w by19 with rfl|rfl|rfl <;> first|exact n3 rfl|exact n5 rfl|exact n6 rfl
def PreG (d:Da) (pre:List ByteArray):Prop:=pre.Nodup∧∀ c∈pre,(instR d c).2=0
theorem PreG.le {d:Da} {pre:List ByteArray} (h:PreG d pre):pre.length≤3:=three_le pre h.1 (fun c hc=>instR_three (h.2 c hc))
theorem PreG.snoc {d:Da} {pre:List ByteArray} {c:ByteArray} (h:PreG d pre) (h1:(instR d c).2=0) (h2:c∉pre):PreG d (pre++[c]):=by
 refine ⟨List.nodup_append.2 ⟨h.1,by simp,fun a ha b hb=>?_⟩,fun x hx=>?_⟩
 ·rw [List.mem_singleton] at hb;subst hb;exact fun e=>h2 (e ▸ ha)
 rcases List.mem_append.1 hx with hx|hx
 ·exact h.2 x hx
 rw [List.mem_singleton] at hx;subst hx;exact h1
open Go.RowKit
def AllL (p:Nat→Prop):List Nat→Prop
 | []=>True
 | i::is=>p i∧AllL p is
theorem AllL.get {p:Nat→Prop}:∀ {is:List Nat},AllL p is→∀ i∈is,p i
 | [],_,i,h=>by simp at h
 | j::is,h,i,hi=>by
  rcases List.mem_cons.1 hi with rfl|hi
  ·exact h.1
  exact AllL.get h.2 i hi
def ADraw (ro:Option Nat) (P:Program) (n:Nat) (l:List Oper) (QQ:Exit→Sl→Mem→Prop) (fuel:Nat) (lis:List Bool) (al:Sl) (M:Mem):Prop :=
 ∀ (B:Nat) (F0:EH) (Mf:Mem) (w0:World) (ds:List Deferred) (F:EH) (a:Act) (w:World),Ext F0 F→Inv B F (M++Mf) w→Slots n F al a.tmps→a.defers=ds→Below B w0 w →
  wpAnyIn (RF ro) 0 P .any l.toArray (fun e a' w'=>PostD n B F0 Mf w0 ds (QQ e) a' w') fuel lis.toArray a w
section
variable {ro:Option Nat} {P:Program} {n:Nat} {l:List Oper} {QQ:Exit→Sl→Mem→Prop} {fuel:Nat} {lis:List Bool} {al:Sl} {M:Mem}
theorem ADraw.done (hr:Region.ready .any l.toArray lis.toArray=[]) (h:QQ .normal al M):ADraw ro P n l QQ fuel lis al M:=by
 intro B F0 Mf w0 ds F a w hE hi hs hd hb
 have hq:PostD n B F0 Mf w0 ds (QQ .normal) a w:=⟨[],F,al,M,h,hE,hi,hs,hd,hb⟩
 cases fuel with
 | zero=>exact ⟨hr,hq⟩
 | succ k=>exact ⟨fun _=>hq,fun i hi=>by rw [hr] at hi;simp at hi⟩
theorem ADraw.step (is:List Nat) (hr:Region.ready .any l.toArray lis.toArray=is) (hne:is.isEmpty=false)
    (h:AllL (fun i=>∃ o,l[i]?=some o∧o.guard=none∧(o.dst.all fun d=>Nat.blt d n)=true∧OpT P o al M (fun v M'=>ADraw ro P n l QQ fuel (lis.set i true) (al.put o.dst v) M')) is):ADraw ro P n l QQ (fuel+1) lis al M:=by
 intro B F0 Mf w0 ds F a w hE hi hs hd hb
 refine ⟨fun e=>?_,fun i hmi=>?_⟩
 ·rw [hr] at e;subst e;simp at hne
 rw [hr] at hmi
 obtain ⟨o,ho,hg,hin,hop⟩:=h.get i hmi
 unfold wpOpIn
 simp only [List.getElem?_toArray,ho]
 rw [if_pos (by simp [Region.wanted,hg])]
 refine wp_exits (Oper.wpIn_mono ?_ (hop n B F Mf a w hi hs ro))
 rintro a' w' ⟨u,v,M',F',rfl,hK,hr',hE',hi',hb'⟩
 have hin':o.dst.all (·<n)=true:=by
  cases hdst:o.dst with
  | none=>rfl
  | some d=>rw [hdst] at hin;simpa [Nat.blt_eq] using hin
 have:=hK B F0 Mf w0 ds F' (a.put o.dst u) w' (hE.trans hE') hi' (Slots.put (hs.mono hE') hin' hr') (by rw [← hd];cases o.dst <;> rfl) (hb.trans hb')
 rwa [show (lis.set i true).toArray=lis.toArray.setIfInBounds i true by simp] at this
end
section
variable {ro:Option Nat} {P:Program} {n:Nat} {l:List Oper} {QQ:Exit→Sl→Mem→Prop} {fuel fuel':Nat} {lis lis':List Bool} {al al':Sl} {M M':Mem}
theorem ADraw.le (hs:SLe al al') (hm:MLe M M') (h:ADraw ro P n l QQ fuel lis al' M'):ADraw ro P n l QQ fuel lis al M :=
 fun B F0 Mf w0 ds F a w hE hi hsl=>h B F0 Mf w0 ds F a w hE (hi.le hm) (hsl.le hs)
end
section
variable {P:Program} {o:Oper} {al:Sl} {M:Mem} {K:AV→Mem→Prop}
theorem op_append_rowh {s x:Operand} {t e:TypeId} {z u:Value} {m bytes i:Nat} {v:AV} {es es':List (List AV)} (E:ElT P t e z m bytes) (ho:o.op=.call { callee:=.builtin .append,args:=#[s,x],argTypes:=#[t,t] }) (hs:al.ev s=some (.val u)) (hm:M[i]?=some (.row e m u es)) (hx:al.ev x=some v) (hv:IsSeq v m es') (hn:es.length+es'.length≤100000000000) (h0:0<es.length+es'.length)
    (q:∀ g cap,K (.val (rowv g (es.length+es'.length) cap)) (M.set i (.row e m (rowv g (es.length+es'.length) cap) (es++es')))):OpT P o al M K:=by
 intro n B F Mf a w hi hsl ro
 have hil:i<M.length:=get_lt hm
 have hu:=Yc hsl hs
 have hi2:=hi.perm ((perm_at hm).append_right Mf)
 rw [List.cons_append] at hi2
 obtain ⟨u',w',hrun,hi',hb⟩:=row_core (ty:=o.type) E hi2 (hv.rel (hsl.ev hx)) hn
 have hform:∃ g cap,u'=rowv g (es.length+es'.length) cap:=by
  obtain ⟨xs,hown,_⟩:=hi'.ok _ (List.mem_cons_self)
  rw [List.length_append] at hown
  obtain ⟨rfl,h0⟩|⟨g,cap,cur,rfl,_⟩:=hown.2
  ·omega
  exact ⟨g,cap,Y⟩
 obtain ⟨g,cap,rfl⟩:=hform
 refine wpR_value (w':=w') ?_ ⟨_,_,_,F,Y,q g cap,.val _,Ext.refl F,?_,hb⟩
 ·simp [execOp,ho,resolve,invoke,builtin,hu,hrun]
 refine hi'.perm ?_
 rw [← List.cons_append]
 exact ((perm_set _ hil).append_right Mf).symm
end
theorem set_flat {α:Type} {m:Nat}:∀ (es:List (List α)) (k f:Nat) (c:α) (cs:List α),(∀ e∈es,e.length=m)→es[k]?=some cs→f<m→es.flatten.set (k * m+f) c=(es.set k (cs.set f c)).flatten
 | [],k,f,c,cs,_,h,_=>by simp at h
 | e::es,0,f,c,cs,hw,h,hf=>by
  have he:=hw e by19
  simp at h
  subst h
  rw [List.flatten_cons,Nat.zero_mul,Nat.zero_add,List.set_append_left _ _ by18,List.set_cons_zero,List.flatten_cons]
 | e::es,k+1,f,c,cs,hw,h,hf=>by
  have he:=hw e by19
  have hk:(k+1) * m+f=m+(k * m+f):=by rw [Nat.add_mul];omega
  have:=set_flat es k f c cs (fun x hx=>hw x (by simp [hx])) (by simpa using h) hf
  rw [List.flatten_cons,List.set_append_right _ _ by18,show (k+1) * m+f - e.length=k * m+f by omega,this,List.set_cons_succ,List.flatten_cons]
theorem op_store_row1 {P:Program} {o:Oper} {al:Sl} {M:Mem} {K:AV→Mem→Prop} {x y:Operand} {t e:TypeId} {m i g n cap off k f:Nat} {v c:AV} {cs:List AV} {es:List (List AV)} (ho:o.op=.store t x y) (ht:(P.info? t).map (·.size)=some 1) (hx:al.ev x=some (.ptr g off)) (hy:al.ev y=some v) (hf:v.flat=true) (hs:v.cells=[c]) (hm:M[i]?=some (.row e m (rowv g n cap) es)) (hoff:off=k * m+f) (hk:es[k]?=some cs) (hfm:f<m) (q:K (.val undef) (M.set i (.row e m (rowv g n cap) (es.set k (cs.set f c))))):OpT P o al M K:=by
 intro n' B F Mf a w hi hsl ro
 have h:=hsl.ev hx
 generalize he:a.eval x=u at h
 cases h with
 | ptr =>
  obtain ⟨h1,h2⟩:=(hsl.ev hy).cells hf
  obtain ⟨cur,hr⟩:=hi.rowAt hm
  have hl1:=h1.len
  rw [hs] at h1 hl1
  have hkl:=get_lt hk
  have hcw:cs.length=m:=hr.wid _ (Xq hk)
  subst hoff
  have hkm:k * m+m≤n * m:=by
   have:(k+1) * m≤n * m:=Nat.mul_le_mul_right _ (by rw [hr.len];omega)
   rw [Nat.add_mul] at this;omega
  have hnc:n * m≤cap * m:=Nat.mul_le_mul_right _ hr.fit
  have hcl:cur.toList.length=cap * m:=hr.siz
  simp only [List.length_cons,List.length_nil] at hl1
  obtain ⟨w',q1,q2,q3,q4,q5,q6,q7⟩:=storeCells_run (P:=P) (a.eval y).cells.toList w cur.toList (k * m+f) 0 (by simpa using hr.at_) h2 by18
  have hrun:(execOp a.eval o).run P w=.ok .skip w':=by
   obtain ⟨inf,hinf,hsz⟩:=Option.map_eq_some_iff.1 ht
   have hcs:(a.eval y).cells.size=1:=by rw [← Array.length_toList];omega
   simp [execOp,ho,he,Instr.storeAt,Instr.sureAddr,storeVar,sizeOf,typeInfo,hinf,hsz,hcs,q1]
  have htk:(setL cur.toList (k * m+f) (a.eval y).cells.toList).take (n * m)=setL (cur.toList.take (n * m)) (k * m+f) (a.eval y).cells.toList:=take_setL _ _ _ _ by18
  have hrow:RowAt B F w' e m g n cap (es.set k (cs.set f c)) (setL cur.toList (k * m+f) (a.eval y).cells.toList).toArray:=by
   refine ⟨by simpa using hr.len,hr.ge,hr.no,fun z hz=>?_,q2,hr.fit,hr.max,by simpa [setL_len] using hr.siz,?_,?_⟩
   ·rcases List.mem_or_eq_of_mem_set hz with hz|rfl
    ·exact hr.wid z hz
    simpa using hcw
   ·rw [← set_flat es k f c cs hr.wid hk hfm,htk]
    exact h1.setL _ hr.rel
   rw [htk]
   exact setL_one _ _ _ h2 hr.one
  refine wpR_skip hrun ⟨undef,.val undef,_,F,Y,q,.val _,Ext.refl F,hi.put hm (b:=g) Y Y hr.no hrow.ok q3 q4,⟨q5,q6,q7,by omega,fun k hk=>q3 k (by have:=hr.ge;omega)⟩⟩
theorem Inv.freezeRow {B:Nat} {F:EH} {R:Mem} {w:World} {m:Nat} {e:TypeId} {u:Value} {es:List (List AV)} (hi2:Inv B F (.row e m u es::R) w):∃ F',Ext F F'∧Inv B F' R w∧Rel F' (.seq m es) u:=by
 obtain ⟨zs,hown,hslack,hrx,hox,hwx⟩:=hi2.ok _ (List.mem_cons_self)
 have hfar:=hi2.far
 rw [List.pairwise_cons] at hfar
 have hext:Ext F (F.grow u.ownBlock zs):=by
  intro b j x h
  unfold EH.grow
  split
  ·rename_i hh
   rw [hslack b j hh.1.symm] at h;simp at h
  exact h
 refine ⟨F.grow u.ownBlock zs,hext,⟨hi2.base,fun b j x h=>?_,fun r hr'=>?_,hfar.2⟩,?_⟩
 ·unfold EH.grow at h
  split at h
  ·rename_i hh
   obtain ⟨hb,hj⟩:=hh
   obtain ⟨rfl,_⟩|⟨g,cap,cur,rfl,_⟩:=hown.2
   ·simp [Value.ownBlock] at hb
   simp [Value.ownBlock] at hb
   subst hb
   rw [hown.cellAt j (by rw [← hown.1];exact hj)];exact h
  exact hi2.fix b j x h
 ·refine (hi2.ok r (List.mem_cons_of_mem _ hr')).stay hext (fun b' hb'=>⟨Y,fun j=>?_⟩)
  unfold EH.grow
  rw [if_neg]
  rintro ⟨e,_⟩
  rcases hfar.1 r hr' with k|k
  ·simp [Res.blk] at k
   rw [k] at e;simp at e
  exact k (by rw [hb'];exact e.symm)
 obtain ⟨rfl,h0⟩|⟨g,cap,cur,rfl,_,_,hnc,hcm,_⟩:=hown.2
 ·have:es=[]:=List.eq_nil_of_length_eq_zero h0
  subst this
  exact .seq0 m none 0 (fun _=>Y)
 refine .seq (vs:=zs) g 0 cap hwx by18 (fun j x hx=>?_) (hrx.mono hext) hox by18
 have hj:=get_lt hx
 unfold EH.grow
 rw [if_pos ⟨by rw [Value.ownBlock],by omega⟩,Nat.zero_add]
 exact hx
theorem set_same {α:Type} {l:List α} {i:Nat} {x:α} (h:l[i]?=some x):l.set i x=l:=by
 apply List.ext_getElem?
 intro j
 rw [List.getElem?_set]
 split
 ·rename_i e
  subst e
  have:=get_lt h
  rw [if_pos this,h]
 rfl
theorem Inv.setLoc {B:Nat} {F:EH} {R:Mem} {w:World} {j k b:Nat} {u:Value} {v:AV} {cs:List AV} (hi:Inv B F R w) (hj:R[j]?=some (.loc b cs)) (hk:cs[k]?=some (.val u)) (hv:Rel F v u):Inv B F (R.set j (.loc b (cs.set k v))) w:=by
 refine ⟨hi.base,hi.fix,fun r hr=>?_,?_⟩
 ·rcases List.mem_or_eq_of_mem_set hr with hr|rfl
  ·exact hi.ok r hr
  obtain ⟨h1,h2,vs,T,h3,h4,h5⟩:=hi.ok _ (Xq hj)
  refine ⟨h1,h2,vs,T,h3,?_,h5⟩
  obtain ⟨x,hx,hr2⟩:=h4.get hk
  cases hr2
  have:=h4.set k hv
  rwa [set_same hx] at this
 have:=hi.far
 rw [far_map] at this ⊢
 rw [List.map_set,set_same (by rw [List.getElem?_map,hj];rfl)]
 exact this
theorem c_frzl {ro:Option Nat} {P:Program} {n:Nat} {ks:List Kont} {Q:Exit→Sl→Mem→Prop} {c:Code} {al:Sl} {M:Mem} {i j k b m:Nat} {e:TypeId} {u:Value} {cs:List AV} {es:List (List AV)} (hm:M[i]?=some (.row e m u es)) (hj:(M.eraseIdx i)[j]?=some (.loc b cs)) (hk:cs[k]?=some (.val u)) (h:ACode ro P n c (after ro P n ks Q) al ((M.eraseIdx i).set j (.loc b (cs.set k (.seq m es))))):ACode ro P n c (after ro P n ks Q) al M:=by
 intro B F Mf a w hi hsl
 have hi2:=hi.perm ((perm_at hm).append_right Mf)
 rw [List.cons_append] at hi2
 obtain ⟨F',h1,h2,h3⟩:=hi2.freezeRow
 have h4:=h2.setLoc (j:=j) (by rw [List.getElem?_append_left (get_lt hj)];exact hj) hk h3
 rw [List.set_append_left _ _ (get_lt hj)] at h4
 exact Code.wpIn_mono (fun e a w hp=>PostD.next (Ds:=[]) h1 (Below.refl _ _) hp) (h B F' Mf a w h4 (hsl.mono h1))
theorem out_cc {P:Program} {fn:Func} {R:AV→Mem→Prop} {al:Sl} {M M':Mem} {t1 T1 b1 s1 i1 t2 T2 b2 s2 i2:Nat} {cs1 cs2:List AV} {v':AV} (hr:fn.results=#[.cell t1 T1,.cell t2 T2]) (hv1:al.lookup t1=some (.ptr b1 0)) (hm1:M[i1]?=some (.loc b1 cs1)) (ht1:tyAgg P T1=some (some s1)) (hs1:cs1.length=s1) (hv2:al.lookup t2=some (.ptr b2 0)) (hm2:M[i2]?=some (.loc b2 cs2)) (ht2:tyAgg P T2=some (some s2)) (hs2:cs2.length=s2) (hl:Le (.tup [.agg cs1,.agg cs2]) v') (hm:MLe M M') (h:R v' M'):Out P fn R .ret al M :=
 ⟨[.agg cs1,.agg cs2],v',M',by rw [hr];exact .cons ⟨b1,0,i1,cs1,hv1,hm1,.inl ⟨s1,ht1,by rw [List.drop_zero,← hs1,List.take_length],by omega⟩⟩ (.cons ⟨b2,0,i2,cs2,hv2,hm2,.inl ⟨s2,ht2,by rw [List.drop_zero,← hs2,List.take_length],by omega⟩⟩ .nil),hl,hm,h⟩
theorem CloneD_row (ks:List Da) (hb:ks.length≤1000000) (hne:ks≠[]):ACall Tryz.prog 21 [.seq 5 (Da.cellss ks)] [] (fun v M'=>∃ g cap,v=.val (rowv g ks.length cap)∧M'=[.row 34 5 (rowv g ks.length cap) (Da.cellss ks)]):=by
 have hl:=Da.cellss_len ks
 have hp:0<ks.length:=List.length_pos_iff.2 hne
 refine Zc Tryz.func21 Y (by kernel_rfl) Y (Xm Y) ?_
 refine Qa7 ?_
 refine Qw ?_
 refine Zb 4 Y Y Y (op_isnil Y tu_23 Y (.seq _ _) ?_)
 intro c4 h4
 refine Qa ?_
 rcases c4 with _|_
 ·refine Qbg ?_
  refine Zb 5 Y Y Y (op_buildSlice_row (xs:=[]) el_23 Y Y Y Y Y Y (Xm Y) ?_);intro r5
  refine Qb ?_
  refine Zb 7 Y Y Y (op_append_rowh (i:=0) el_23 Y Y Y Y (.seq _ _) (by show 0+(Da.cellss ks).length≤100000000000;omega) ((by show 0<0+(Da.cellss ks).length;omega)) ?_)
  intro g7 a7
  refine Qs ?_
  have e:0+(Da.cellss ks).length=ks.length:=by omega
  exact Zg Y Y (Xg _) (MLe.refl _) ⟨g7,a7,congrArg (fun n=>AV.val (rowv g7 n a7)) e,congrArg (fun n=>[Res.row 34 5 (rowv g7 n a7) (Da.cellss ks)]) e⟩
 refine Qr ?_
 exact absurd (congrArg List.length (h4 Y)) (by rw [hl];show ¬ ks.length=0;omega)
theorem CloneI_c (ks:List In) (hb:ks.length≤1000000):OCall Tryz.prog 22 [.seq 8 (In.cellss ks)] 49 8 (In.cellss ks):=by
 have hl:=In.cellss_len ks
 refine Zc Tryz.func22 Y (by kernel_rfl) Y (Xm Y) ?_
 refine Qa7 ?_
 refine Qw ?_
 refine Zb 4 Y Y Y (op_isnil Y tu_25 Y (.seq _ _) ?_)
 intro c4 h4
 refine Qa ?_
 rcases c4 with _|_
 ·refine Qbg ?_
  refine Zb 5 Y Y Y (Yy (xs:=[]) el_25 Y Y Y Y Y Y (Xm Y) ?_);intro u5
  refine Qb ?_
  refine Zb 7 Y Y Y (Zr (i:=0) el_25 Y Y Y Y (.seq _ _) by8 ?_)
  intro u7
  refine Qs ?_
  exact Zg Y Y (Xg _) by5 ⟨_,Y,Y⟩
 refine Qh ?_
 refine QK ?_
 refine Yb 49 8 (c_ret ?_)
 rw [h4 rfl];exact Zg rfl rfl (Le.nilOwn 8) (MLe.refl _) ⟨_,rfl,rfl⟩
theorem CloneD_nil:OCall Tryz.prog 21 [.seq 5 (Da.cellss [])] 34 5 (Da.cellss []):=by
 have hl:(Da.cellss []).length=0:=rfl
 refine Zc Tryz.func21 Y (by kernel_rfl) Y (Xm Y) ?_
 refine Qa7 ?_
 refine Qw ?_
 refine Zb 4 Y Y Y (op_isnil Y tu_23 Y (.seq _ _) ?_)
 intro c4 h4
 refine Qa ?_
 rcases c4 with _|_
 ·refine Qbg ?_
  refine Zb 5 Y Y Y (Yy (xs:=[]) el_23 Y Y Y Y Y Y (Xm Y) ?_);intro u5
  refine Qb ?_
  refine Zb 7 Y Y Y (Zr (i:=0) el_23 Y Y Y Y (.seq _ _) by8 ?_)
  intro u7
  refine Qs ?_
  exact Zg Y Y (Xg _) by5 ⟨_,Y,Y⟩
 refine Qh ?_
 refine QK ?_
 exact Yb 34 5 (c_ret (Zg Y Y (Le.nilOwn 5) (MLe.refl _) ⟨_,Y,Y⟩))
def stripC (d:Da):List AV:=d.cells.set 3 (.val (.slice none 0 0))
def rowC (da:List Da) (i:Nat):List (List AV):=(da.take i).map stripC++(da.drop i).map Da.cells
theorem rowC_len (da:List Da) (i:Nat) (h:i≤da.length):(rowC da i).length=da.length:=by
 unfold rowC
 rw [List.length_append,List.length_map,List.length_map,List.length_take,List.length_drop]
 omega
theorem rowC_get {da:List Da} {i:Nat} {d:Da} (h:da[i]?=some d):(rowC da i)[i]?=some d.cells:=by
 have hi:=get_lt h
 have hl:((da.take i).map stripC).length=i:=by rw [List.length_map,List.length_take];omega
 unfold rowC
 rw [List.getElem?_append_right by18,hl,Nat.sub_self,drop_at h]
 rfl
theorem rowC_set {da:List Da} {i:Nat} {d:Da} (h:da[i]?=some d):(rowC da i).set i (stripC d)=rowC da (i+1):=by
 have hi:=get_lt h
 have hl:((da.take i).map stripC).length=i:=by rw [List.length_map,List.length_take];omega
 unfold rowC
 rw [List.set_append_right _ _ by18,hl,Nat.sub_self,drop_at h,Yg h,List.map_append,List.append_assoc]
 rfl
theorem rowC_all {da:List Da} {i:Nat} (h:da.length≤i):rowC da i=da.map stripC:=by
 unfold rowC
 rw [List.take_of_length_le h,Xr h]
 simp
theorem strip_less:∀ da:List Da,Less (da.map stripC) (Da.cellss (da.map stripD))
 | []=>.nil
 | .mk _ _ _ _ _::da=>.cons (Xi (Xg _) (Xi (Xg _) (Xi (Xg _) (Xi (Le.nil _) (Xi (Xg _) (Xh _)))))) rfl (strip_less da)
abbrev zDg:List AV:=[.val (.int .i64 0),.val (.int .i64 0)]
def allV (r:Pg × Int × Int):AV:=.tup [.agg r.1.cells,.agg [.val (.int .i64 r.2.1),.val (.int .i64 r.2.2)]]
theorem All_nil (cl:List Cl) (ins:List In) (bs:List Bi) (hb:ins.length≤100000):PCall Tryz.prog 7 [.agg (Pg.mk [] cl ins bs).cells] (allV (Pg.mk [] cl ins bs,0,0)):=by
 have HC:=CloneD_nil
 have HI:=CloneI_c ins by18
 have hl:=Da.cellss_len []
 simp only [List.length_nil] at hl
 unfold allV
 simp only [Pg.cells] at *
 refine Zc Tryz.func7 Y (by kernel_rfl) Y (Xm Y) ?_
 refine Qn ?_
 refine Qc3 ?_
 refine QbA ?_;intro b2
 refine Qer ?_;intro b3
 refine QA ?_
 refine QfF ?_
 refine QbA ?_;intro b4
 refine Qdc ?_
 refine Qv ?_
 refine QfG ?_
 refine QaH ?_
 refine QaH ?_
 refine EOps.nw (i:=2) Y Y Y (op_callo (xs:=[.tmp 13]) Y Y (HC) by3 (fun u14=>⟨_,Y,?_⟩))
 refine QB ?_
 refine EOps.nw (i:=5) Y Y Y (op_callo (xs:=[.tmp 16]) Y Y (HI) by3 (fun u17=>⟨_,Y,?_⟩))
 refine Qeo ?_
 refine QB ?_
 refine Qep ?_
 show AGo _ _ _ _ _ _ _
 refine QaS ?_
 refine Q4 ?_
 refine QcR ?_;intro n22
 refine QaN ?_
 apply Zy (rg [(0,2),(5,16),(23,49)]) (σ:=Nat) (fun zz=>match zz with|i=>[(23,.val (.int .i64 i))]) (fun zz=>match zz with|i=>True) (fun zz=>match zz with|i=>0) (0)
 ·repeat' (first|exact Xp|apply Xn rfl|apply Xo rfl)
 ·exact trivial
 ·exact by6
 rintro i hI
 try dsimp only [List.cons_append,List.nil_append] at hI ⊢
 refine QaO ?_;intro c24 h24
 refine Qv ?_
 obtain ⟨rfl,g24⟩|⟨rfl,g24⟩:=Za h24
 ·refine QaE ?_
  refine Qo ?_
  refine QdT ?_
  refine QfH ?_
  refine QdU ?_
  refine QfI ?_
  refine Ql ?_
  first
  | exact out_cc (i1:=2) (i2:=1) rfl rfl rfl ta_28 rfl rfl rfl ta_38 rfl by2 (Xb _) ⟨rfl,rfl⟩
 omega
theorem All_cons (da:List Da) (cl:List Cl) (ins:List In) (bs:List Bi) (hsm:∀ d∈da,smP d) (hne:da≠[]) (hb:da.length+ins.length≤100000):PCall Tryz.prog 7 [.agg (Pg.mk da cl ins bs).cells] (allV (allR (Pg.mk da cl ins bs))):=by
 have HC:=CloneD_row da by18 hne
 have HI:=CloneI_c ins by18
 have HD:=fun d (h:smP d) c=>Inst_c d (h.dtg.das h.ps) c
 have hl:=Da.cellss_len da
 obtain ⟨w,hw⟩:∃ w,allR (Pg.mk da cl ins bs)=w:=⟨_,rfl⟩
 rw [hw]
 replace hw:(if (allL da ins).2.1≠0 then (pg0,(allL da ins).2) else (Pg.mk (da.map stripD) cl (allL da ins).1 bs,0,0))=w:=hw
 obtain ⟨R,hR⟩:∃ R,allL da ins=R:=⟨_,rfl⟩
 rw [hR] at hw
 unfold allV
 simp only [Pg.cells] at *
 refine Zc Tryz.func7 Y (by kernel_rfl) Y (Xm Y) ?_
 refine Qn ?_
 refine Qc3 ?_
 refine QbA ?_;intro b2
 refine Qer ?_;intro b3
 refine QA ?_
 refine QfF ?_
 refine QbA ?_;intro b4
 refine Qdc ?_
 refine Qv ?_
 refine QfG ?_
 refine QaH ?_
 refine QaH ?_
 refine EOps.nws (i:=2) Y Y Y (op_callat [] (xs:=[.tmp 13]) Y Y Y (HC) by3 ?_)
 rintro v M' ⟨g,cap,rfl,rfl⟩
 refine QB ?_
 refine EOps.nw (i:=5) Y Y Y (op_callo (xs:=[.tmp 16]) Y Y (HI) by3 (fun u17=>⟨_,Y,?_⟩))
 refine Qeo ?_
 refine QB ?_
 refine Qep ?_
 show AGo _ _ _ _ _ _ _
 refine QaS ?_
 refine Q4 ?_
 refine QcR ?_;intro n22
 refine QaN ?_
 apply Ye (rg [(0,2),(5,16),(23,49)]) (σ:=Nat × List In × Value) (fun zz=>match zz with|(i,acc,u)=>[(23,.val (.int .i64 i))]) (fun zz=>match zz with|(i,acc,u)=>[.loc b4 [.val (rowv g da.length cap),.seq 6 (Cl.cellss cl),.own u 8 (In.cellss acc),.seq 13 (Bi.cellss bs)],.loc b3 zDg,.loc b2 zPg,.row 34 5 (rowv g da.length cap) (rowC da i),.own 49 8 u]) (fun zz=>match zz with|(i,acc,u)=>i≤da.length∧allL (da.drop i) acc=R∧acc.length≤ins.length+3 * i) (fun zz=>match zz with|(i,acc,u)=>da.length - i) ((0,ins,u17))
 ·repeat' (first|exact Xp|apply Xn rfl|apply Xo rfl)
 ·exact ⟨Nat.zero_le _,hR,by show ins.length≤ins.length+3 * 0;omega⟩
 ·exact by6
 ·exact (Xf Y)
 rintro ⟨i,acc,u⟩ hI
 try dsimp only [List.cons_append,List.nil_append] at hI ⊢
 obtain ⟨hi,hA,hla⟩:=hI
 have hlr:=rowC_len da i hi
 refine QaO ?_;intro c24 h24
 refine Qv ?_
 obtain ⟨rfl,g24⟩|⟨rfl,g24⟩:=Za h24
 ·refine QE ?_
  rw [rowC_all by18]
  rw [Xr by18,allL] at hA
  subst hA
  rw [if_neg (fun q=>q rfl)] at hw
  subst hw
  refine c_frzl (i:=3) (j:=0) (k:=0) Y Y Y ?_
  refine Qi ?_
  refine QdT ?_
  refine QfH ?_
  refine QdU ?_
  refine QfI ?_
  refine Ql ?_
  first
  | exact out_cc (i1:=2) (i2:=1) rfl rfl rfl ta_28 rfl rfl rfl ta_38 rfl (Le.tup (Xi (Le.agg (Xi (Le.seq (strip_less da)) (Xi (Xg _) (Xi (Le.own _ _ _) (Xi (Xg _) (Xh _)))))) (Xi (Xg _) (Xh _)))) (Xb _) ⟨rfl,rfl⟩
 refine Qx ?_
 obtain ⟨⟨qs,qps,qcs,qdv,qp⟩,hxq⟩:=Zo (l:=da) (i:=i) by9
 have hcq:=Da.cellss_get hxq
 have hmq:=Xq hxq
 have hsq:=hsm _ hmq
 have HDq:=HD _ hsq
 have hrg:=rowC_get hxq
 have hrs:=rowC_set hxq
 rw [drop_at hxq,allL] at hA
 obtain ⟨D,hD⟩:∃ D,derL (Da.mk qs qps qcs qdv qp) [] qdv acc=D:=⟨_,rfl⟩
 replace hA:(if (derL (Da.mk qs qps qcs qdv qp) [] qdv acc).2≠0 then ((derL (Da.mk qs qps qcs qdv qp) [] qdv acc).1,(derL (Da.mk qs qps qcs qdv qp) [] qdv acc).2,qp) else allL (da.drop (i+1)) (derL (Da.mk qs qps qcs qdv qp) [] qdv acc).1)=R:=hA
 rw [hD] at hA
 have hlv:=Yz qdv
 have hPG:PreG (Da.mk qs qps qcs qdv qp) []:=⟨by simp,by simp⟩
 refine Qe ?_
 refine Qes ?_
 refine QbK ?_
 refine Qda ?_;intro b6
 refine Qa3 ?_
 refine Qdo ?_
 refine QbD ?_
 refine Qa4 ?_;intro n30
 refine QaN ?_
 refine c_lens (t:=29) Y (.seq _ _) (fun hmax=>?_)
 apply Ye (rg [(0,2),(7,14),(31,35)]) (σ:=Nat × List In × Value) (fun zz=>match zz with|(j,acc2,v)=>[(31,.val (.int .i64 j))]) (fun zz=>match zz with|(j,acc2,v)=>[.loc b6 (Da.mk qs qps qcs qdv qp).cells,.loc b4 [.val (rowv g da.length cap),.seq 6 (Cl.cellss cl),.own v 8 (In.cellss acc2),.seq 13 (Bi.cellss bs)],.loc b3 zDg,.loc b2 zPg,.row 34 5 (rowv g da.length cap) (rowC da i),.own 49 8 v]) (fun zz=>match zz with|(j,acc2,v)=>j≤qdv.length∧PreG (Da.mk qs qps qcs qdv qp) (qdv.take j)∧derL (Da.mk qs qps qcs qdv qp) (qdv.take j) (qdv.drop j) acc2=D∧acc2.length≤acc.length+j) (fun zz=>match zz with|(j,acc2,v)=>qdv.length - j) ((0,acc,u))
 ·repeat' (first|exact Xp|apply Xn rfl|apply Xo rfl)
 ·exact ⟨Nat.zero_le _,hPG,hD,by show acc.length≤acc.length+0;omega⟩
 ·exact by6
 ·exact (Xf Y)
 rintro ⟨j,acc2,v⟩ hI
 try dsimp only [List.cons_append,List.nil_append] at hI ⊢
 obtain ⟨hj,hP,hE,hl2⟩:=hI
 have h3:=hP.le
 rw [List.length_take] at h3
 have hl8:(In.cellss acc2).length≤1000000:=by rw [In.cellss_len];omega
 refine QaO ?_;intro c32 h32
 refine Qv ?_
 obtain ⟨rfl,g32⟩|⟨rfl,g32⟩:=Za h32
 ·refine QaE ?_
  rw [List.take_of_length_le by18,Xr by18,derL] at hE
  subst hE
  rw [if_neg (fun q=>q rfl)] at hA
  have hlt:i<(rowC da i).length:=by omega
  rw [List.take_of_length_le by18] at hP
  have h3':=hP.le
  refine QaX ?_
  refine Qbj ?_
  refine Qb ?_
  refine Zb 69 Y Y Y (op_index_row (i:=4) (k:=i) Y te_23 Y Y Y by12 by18 ?_)
  refine Qu ?_
  refine Zp Y Y (op_store_row1 (i:=4) (k:=i) (f:=3) Y ts_31 Y Y Y Y Y Y (hrg) by17 ?_)
  refine Qac ?_
  refine Qax ?_
  refine ⟨(i+1,acc2,v),⟨by show i+1≤da.length;omega,hA,by show acc2.length≤_;omega⟩,by show da.length - (i+1)<da.length - i;omega,by6,Xd _ (Xc _ (Xc _ (Xc _ (Xf ?_))))⟩
  show [Res.row _ 5 _ ((rowC da i).set i (stripC (Da.mk qs qps qcs qdv qp))),_]=_
  rw [hrs]
 refine Qx ?_
 obtain ⟨w2,hxw2⟩:=Zo (l:=qdv) (i:=j) by9
 have hcw2:=strs_get hxw2
 have hmw2:=Xq hxw2
 have HW:=HDq w2
 have HH:=ContainsS_c (qdv.take j) w2
 rw [show strs (qdv.take j)=(strs qdv).take j from List.map_take] at HH
 have hp1:=fun h1 h2=>hP.snoc (c:=w2) h1 h2
 have hsn:=Yg hxw2
 rw [drop_at hxw2,derL] at hE
 have h121:=fun h=>instR_code (d:=Da.mk qs qps qcs qdv qp) (cl:=w2) h
 obtain ⟨⟨⟨xc,⟨xk,xs,xn,xl⟩,xcx,xbs,xp⟩,code⟩,hx⟩:∃ r,instR (Da.mk qs qps qcs qdv qp) w2=r:=⟨_,rfl⟩
 rw [hx] at HW hE hp1 h121
 simp only [] at HW hE hp1 h121
 refine Qe ?_
 refine Zb 34 Y Y Y (Zq Y te_31 Y (.seq _ _) Y Y (hcw2) ?_)
 refine QbG ?_
 refine Qav ?_
 refine Qo ?_
 refine Qdp ?_
 refine Qb ?_
 refine Zb 39 Y Y Y (Ze (xs:=[.tmp 37,.tmp 38]) Y Y (HW) by3 ?_)
 refine Qbf ?_
 refine QcX ?_;intro b9
 refine Qdq ?_
 refine Qba ?_
 refine Zx 51 (code=0∧w2∈qdv.take j) ?_ _ _ Y ?_
 ·skip
  refine QbV ?_;intro c43 h43
  refine Qb ?_
  obtain ⟨rfl,g43⟩|⟨rfl,g43⟩:=Za h43
  ·skip
   refine Qm ?_
   refine Qai ?_
   refine Xk Y ?_ by7 by5
   clear HW HH HD HDq HC HI;first|(simp_all;done)|(simp_all;omega)|grind
  skip
  refine Qb4 ?_
  refine Qdd ?_
  refine Qd ?_
  refine Zm 48 Y Y Y Y Y (op_cuth (k:=j) Y te_31 Y (.seq _ _) Y by18 by18 ?_)
  refine Qd ?_
  refine Zm 50 Y Y Y Y Y (Zl (xs:=[.tmp 48,.tmp 49]) Y Y (HH) by3 ?_);intro c50 h50
  refine Qg ?_
  refine Xk Y ?_ by7 by5
  clear HW HH HD HDq HC HI;first|(simp_all;done)|(simp_all;omega)|grind
 intro c51 h51
 refine Qc ?_
 apply c_joinkm (rg [(0,2),(10,11)]) (σ:=Int) (fun zz=>match zz with|e2=>[(10,.val (.int .i64 e2))]) (fun zz=>match zz with|e2=>e2=if code=0∧w2∈qdv.take j then 120 else code)
 ·repeat' (first|exact Xp|apply Xn rfl|apply Xo rfl)
 ·skip
  obtain ⟨rfl,g51⟩|⟨rfl,g51⟩:=Za h51
  ·refine Qbx ?_
   first
   | exact ⟨120,(if_pos g51).symm,by6,by5⟩
   | exact ⟨code,(if_neg g51).symm,by6,by5⟩
  refine Qh ?_
  refine Qi ?_
  refine Qap ?_
  first
  | exact ⟨120,(if_pos g51).symm,by6,by5⟩
  | exact ⟨code,(if_neg g51).symm,by6,by5⟩
 rintro e2 hI
 try dsimp only [List.cons_append,List.nil_append] at hI ⊢
 have he2:=hI
 refine Qc ?_
 refine Qw ?_
 refine Qao ?_;intro c53 h53
 refine Qa ?_
 obtain ⟨rfl,g53⟩|⟨rfl,g53⟩:=Za h53
 ·refine QN ?_
  have hc0:code=0:=by
   by_cases hc:code=0
   ·exact hc
   rw [if_neg (fun q=>hc q.1)] at he2;exact absurd (he2.symm.trans (Classical.not_not.1 g53)) hc
  have hnm:w2∉qdv.take j:=fun q=>by
   rw [if_pos ⟨hc0,q⟩] at he2
   exact g53 (by rw [he2];decide)
  rw [if_neg (fun q=>q hc0),if_neg (fun q=>hnm (hasB_iff.1 q))] at hE
  refine QaX ?_
  refine QcF ?_
  refine Qfr ?_
  refine Zb 62 Y Y Y (Zd (xs:=[.tmp 61]) el_25 Y Y Y Y Y Y (Xm Y) (Zb 63 Y Y Y (Zr (i:=6) el_25 Y Y Y Y (.seq _ _) by8 ?_)))
  intro u63
  refine Qu ?_
  refine Zp Y Y (Zi (cs':=[_,_,_,_]) (i:=2) Y ts_25 Y Y Y Y Y (Xm Y) Y ?_)
  refine Qac ?_
  refine Qax ?_
  exact ⟨(j+1,acc2++[In.mk xc (Ty.mk xk xs xn xl) xcx xbs xp],u63),⟨by show j+1≤qdv.length;omega,by show PreG _ (qdv.take (j+1));rw [hsn];exact hp1 hc0 hnm,by show derL _ (qdv.take (j+1)) _ _=D;rw [hsn];exact hE,by show (acc2++_).length≤_;rw [List.length_append,List.length_singleton];omega⟩,by show qdv.length - (j+1)<qdv.length - j;omega,by6,Xd _ (Xc _ (Xe _ (Xi (Xg _) (Xi (Xg _) (Xi (Xl (by rw [In.cellss_app'];rfl)) (Xh _)))) (Xf Y)))⟩
 refine QaG ?_
 refine Ya [0,1,2,3,4,5,6] [5,6] [[],[],[],[2],[1,2,3],[0],[0,1,2,3,4,5]] tmix Y ?_
 refine Qet ?_
 refine Qp ?_
 refine Qcw ?_
 refine Zh 58 (none) (i:=4) Y Y Y Y Y (Zk (ns:=[0,1]) (xs:=[.tmp 55,.tmp 57]) (cs':=[_,_]) Y tz_38 Y tfl_38 Y Y Y Y ⟨Y,Y⟩) ?_
 refine Qeu ?_
 refine Zs 3 (i:=6) Y Y Y Y Y (Zi (cs':=[_,_]) (i:=0) Y ts_38 Y Y Y Y Y (Xm Y) Y ⟨_,Y,?_⟩)
 show AGo _ _ _ _ _ _ _
 refine Qc ?_
 have hDe:D.2=e2:=by
  by_cases hc:code≠0
  ·rw [if_pos hc] at hE;rw [← hE,he2,if_neg (fun q=>hc q.1)];exact (h121 hc).symm
  rw [if_neg hc] at hE
  by_cases hm:w2∈qdv.take j
  ·rw [if_pos (hasB_iff.2 hm)] at hE;rw [← hE,he2,if_pos ⟨Classical.not_not.1 hc,hm⟩]
  rw [if_neg (fun q=>hm q.2)] at he2;exact absurd (he2.trans (Classical.not_not.1 hc)) g53
 rw [if_pos (by rw [hDe];exact g53)] at hA
 subst hA
 rw [if_pos (by show D.2≠0;rw [hDe];exact g53)] at hw
 replace hw:(pg0,D.2,qp)=w:=hw
 rw [hDe] at hw
 subst hw
 refine c_ret ?_
 first
 | exact out_cc (i1:=4) (i2:=3) rfl rfl rfl ta_28 rfl rfl rfl ta_38 rfl by2 (Xb _) ⟨rfl,rfl⟩
theorem All_c (p:Pg) (hsm:∀ d∈p.da,smP d) (hb:p.da.length+p.ins.length≤100000):PCall Tryz.prog 7 [.agg p.cells] (allV (allR p)):=by
 obtain ⟨da,cl,ins,bs⟩:=p
 by_cases h:da=[]
 ·subst h
  exact All_nil cl ins bs (by have:([]:List Da).length+ins.length≤100000:=hb;simp at this;omega)
 exact All_cons da cl ins bs hsm h hb
theorem stripC_snoc (l:List Da) (d:Da):(l++[d]).map stripC=l.map stripC++[stripC d]:=by rw [List.map_append];rfl
theorem rAll_c (p:Pg) (hsm:∀ d∈p.da,smP d) (hb:p.da.length+p.ins.length≤100000):PCall Tryz.prog 8 [.agg p.cells] (.tup [.agg (allR p).1.cells,.val (.int .i64 (allR p).2.1),.val (.int .i64 (allR p).2.2)]):=by
 have HD:=fun d (h:smP d) c=>rInst_c d h.dtg h.ps c
 obtain ⟨da,cl,ins,bs⟩:=p
 replace hsm:∀ d∈da,smP d:=hsm
 replace hb:da.length+ins.length≤100000:=hb
 have hl:=Da.cellss_len da
 have hli:=In.cellss_len ins
 obtain ⟨w,hw⟩:∃ w,allR (Pg.mk da cl ins bs)=w:=⟨_,rfl⟩
 rw [hw]
 replace hw:(if (allL da ins).2.1≠0 then (pg0,(allL da ins).2) else (Pg.mk (da.map stripD) cl (allL da ins).1 bs,0,0))=w:=hw
 obtain ⟨R,hR⟩:∃ R,allL da ins=R:=⟨_,rfl⟩
 rw [hR] at hw
 simp only [Pg.cells] at *
 refine Zc Tryz.func8 Y (by kernel_rfl) Y (Xm Y) ?_
 refine Qn ?_
 refine Qc3 ?_
 refine QbA ?_;intro b2
 refine Qav ?_
 refine Q4 ?_
 refine Qy ?_
 refine Zb 16 Y Y Y (Zk (ns:=[1,3]) (xs:=[.tmp 13,.tmp 15]) (cs':=[_,_,_,_]) Y tz_28 Y tfl_28 Y Y Y Y ?_)
 refine QbA ?_;intro b5
 refine Qdc ?_
 refine Qbq ?_
 refine Qy ?_
 refine Zb 21 Y Y Y (op_append_nil el_25 Y Y Y (.seq _ _) by18 ?_)
 intro u21
 refine Qu ?_
 refine Zp Y Y (Zi (cs':=[_,_,_,_]) (i:=1) Y ts_25 Y Y Y Y Y (Xm Y) Y ?_)
 refine Qv ?_
 refine Q3 ?_
 refine Yb 34 5 ?_
 apply Ye (rg [(0,1),(3,2),(6,99)]) (σ:=Nat × List In × Value × Value) (fun zz=>match zz with|(i,acc,u,v)=>[(6,.val (.int .i64 i))]) (fun zz=>match zz with|(i,acc,u,v)=>[.own 49 8 u,.loc b5 [.own v 5 ((da.take i).map stripC),.seq 6 (Cl.cellss cl),.own u 8 (In.cellss acc),.seq 13 (Bi.cellss bs)],.loc b2 zPg,.own 34 5 v]) (fun zz=>match zz with|(i,acc,u,v)=>i≤da.length∧allL (da.drop i) acc=R∧acc.length≤ins.length+3 * i) (fun zz=>match zz with|(i,acc,u,v)=>da.length - i) ((0,ins,u21,.slice none 0 0))
 ·repeat' (first|exact Xp|apply Xn rfl|apply Xo rfl)
 ·exact ⟨Nat.zero_le _,hR,by show ins.length≤ins.length+3 * 0;omega⟩
 ·exact by6
 ·exact (Xc _ (Xe _ (Xi (Le.nilOwn 5) (Xh _)) (Xf Y)))
 rintro ⟨i,acc,u,v⟩ hI
 try dsimp only [List.cons_append,List.nil_append] at hI ⊢
 obtain ⟨hi,hA,hla⟩:=hI
 refine QO ?_
 refine QcR ?_;intro n26
 refine Qk ?_;intro c27 h27
 refine Qa ?_
 obtain ⟨rfl,g27⟩|⟨rfl,g27⟩:=Za h27
 ·refine QE ?_
  rw [List.take_of_length_le by18]
  rw [Xr by18,allL] at hA
  subst hA
  rw [if_neg (fun q=>q rfl)] at hw
  subst hw
  refine Qi ?_
  refine Zb 105 Y Y Y (Zv (cs':=[_,_,_,_]) (i:=1) Y ta_28 Y Y Y Y ?_)
  refine QdU ?_
  refine Qbv ?_
  first
  | exact Zt (i:=2) rfl rfl rfl rfl rfl ta_28 rfl (Le.tup (Xi (Le.agg (Xi (Le.own_seqL (strip_less da)) (Xi (Xg _) (Xi (Le.own _ _ _) (Xi (Xg _) (Xh _)))))) (Xi (Xg _) (Xi (Xg _) (Xh _))))) (Xb _) ⟨rfl,rfl⟩
 refine Qx ?_
 obtain ⟨⟨qs,qps,qcs,qdv,qp⟩,hxq⟩:=Zo (l:=da) (i:=i) by9
 have hcq:=Da.cellss_get hxq
 have hmq:=Xq hxq
 have hsq:=hsm _ hmq
 have HDq:=HD _ hsq
 have hsnd:=Yg hxq
 have hl6:qcs.length≤6:=hsq.2.1
 have hlcs:=Cn.cellss_len qcs
 rw [drop_at hxq,allL] at hA
 obtain ⟨D,hD⟩:∃ D,derL (Da.mk qs qps qcs qdv qp) [] qdv acc=D:=⟨_,rfl⟩
 replace hA:(if (derL (Da.mk qs qps qcs qdv qp) [] qdv acc).2≠0 then ((derL (Da.mk qs qps qcs qdv qp) [] qdv acc).1,(derL (Da.mk qs qps qcs qdv qp) [] qdv acc).2,qp) else allL (da.drop (i+1)) (derL (Da.mk qs qps qcs qdv qp) [] qdv acc).1)=R:=hA
 rw [hD] at hA
 have hlv:=Yz qdv
 have hPG:PreG (Da.mk qs qps qcs qdv qp) []:=⟨by simp,by simp⟩
 refine Qi ?_
 refine Qay ?_
 refine Qes ?_
 refine QbK ?_
 refine Qda ?_;intro b7
 refine Qdo ?_
 refine Qv ?_
 refine Q3 ?_
 apply Ye (rg [(0,1),(3,2),(8,15),(35,56)]) (σ:=Nat × List In × Value) (fun zz=>match zz with|(j,acc2,z)=>[(8,.val (.int .i64 j))]) (fun zz=>match zz with|(j,acc2,z)=>[.loc b7 (Da.mk qs qps qcs qdv qp).cells,.own 49 8 z,.loc b5 [.own v 5 ((da.take i).map stripC),.seq 6 (Cl.cellss cl),.own z 8 (In.cellss acc2),.seq 13 (Bi.cellss bs)],.loc b2 zPg,.own 34 5 v]) (fun zz=>match zz with|(j,acc2,z)=>j≤qdv.length∧PreG (Da.mk qs qps qcs qdv qp) (qdv.take j)∧derL (Da.mk qs qps qcs qdv qp) (qdv.take j) (qdv.drop j) acc2=D∧acc2.length≤acc.length+j) (fun zz=>match zz with|(j,acc2,z)=>qdv.length - j) ((0,acc,u))
 ·repeat' (first|exact Xp|apply Xn rfl|apply Xo rfl)
 ·exact ⟨Nat.zero_le _,hPG,hD,by show acc.length≤acc.length+0;omega⟩
 ·exact by6
 ·exact (Xf Y)
 rintro ⟨j,acc2,z⟩ hI
 try dsimp only [List.cons_append,List.nil_append] at hI ⊢
 obtain ⟨hj,hP,hE,hl2⟩:=hI
 have h3:=hP.le
 rw [List.length_take] at h3
 have hl8:(In.cellss acc2).length≤1000000:=by rw [In.cellss_len];omega
 refine Qw ?_
 refine Qar ?_
 refine Qa4 ?_;intro n38
 refine Qk ?_;intro c39 h39
 refine Qa ?_
 obtain ⟨rfl,g39⟩|⟨rfl,g39⟩:=Za h39
 ·refine QaE ?_
  rw [List.take_of_length_le by18,Xr by18,derL] at hE
  subst hE
  rw [if_neg (fun q=>q rfl)] at hA
  rw [List.take_of_length_le by18] at hP
  have h3':=hP.le
  have hl9:((da.take i).map stripC).length≤1000000:=by rw [List.length_map,List.length_take];omega
  refine QaX ?_
  refine QcF ?_
  refine Qar ?_
  refine Qar ?_
  refine Qar ?_
  refine Qar ?_
  refine Zb 101 Y Y Y (Zk (ns:=[0,1,2,4]) (xs:=[.tmp 94,.tmp 96,.tmp 98,.tmp 100]) (cs':=[_,_,_,_,_]) Y tz_34 Y tfl_34 Y Y Y Y (Zb 102 Y Y Y (Zd (xs:=[.tmp 101]) el_23 Y Y Y Y Y Y (Xm Y) ?_)))
  refine Zb 103 Y Y Y (Zr (i:=4) el_23 Y Y Y Y (.seq _ _) (by simp only [List.length_map,List.length_reverse,List.length_cons,List.length_nil,List.length_take];omega) ?_)
  intro u103
  refine Qu ?_
  refine Zp Y Y (Zi (cs':=[_,_,_,_]) (i:=2) Y ts_23 Y Y Y Y Y (Xm Y) Y ?_)
  refine Qac ?_
  refine Qaq ?_
  exact ⟨(i+1,acc2,z,u103),⟨by show i+1≤da.length;omega,hA,by show acc2.length≤_;omega⟩,by show da.length - (i+1)<da.length - i;omega,by6,Xd _ (Xc _ (Xe _ (Xi (Xl (by rw [hsnd,stripC_snoc];rfl)) (Xh _)) (Xf Y)))⟩
 refine Qae ?_
 refine Qo ?_
 refine Qdp ?_
 refine Qda ?_;intro b9
 refine Qdo ?_
 refine Qv ?_
 refine QaY ?_
 refine Qbl ?_;intro n45
 refine Q0 ?_;intro c46 h46
 refine Qa ?_
 obtain ⟨rfl,g46⟩|⟨rfl,g46⟩:=Za h46
 ·refine Q7 ?_
  obtain ⟨w2,hxw2⟩:=Zo (l:=qdv) (i:=j) by9
  have hcw2:=strs_get hxw2
  have hmw2:=Xq hxw2
  have HW:=HDq w2
  have HH:=Has_c (qdv.take j) w2
  rw [show strs (qdv.take j)=(strs qdv).take j from List.map_take] at HH
  have hp1:=fun h1 h2=>hP.snoc (c:=w2) h1 h2
  have hsn:=Yg hxw2
  rw [drop_at hxw2,derL] at hE
  have h121:=fun h=>instR_code (d:=Da.mk qs qps qcs qdv qp) (cl:=w2) h
  obtain ⟨⟨⟨xc,⟨xk,xs,xn,xl⟩,xcx,xbs,xp⟩,code⟩,hx⟩:∃ r,instR (Da.mk qs qps qcs qdv qp) w2=r:=⟨_,rfl⟩
  rw [hx] at HW hE hp1 h121
  simp only [] at HW hE hp1 h121
  obtain ⟨ok,hok⟩:∃ b,decide (code=0)=b:=⟨_,rfl⟩
  rw [hok] at HW
  refine Ya [0,1,2,3,4,5,6,7,8,9,10,11,12] [10,11] [[],[],[1],[],[1,2,3],[1,2,3,4],[0,1,2,3,4,5],[0,1,2,3,4,5,6],[0,1,2,3,4,5,6,7],[0,1,2,3,4,5,6,7],[],[0,1,2,3,4,5,6,7,8,10],[0,1,2,3,4,5,6,7,8,9,10,11]] tmix Y (Zh 51 (some 0) (i:=0) Y Y Y Y Y (Zv (cs':=[_,_,_,_,_]) (i:=0) Y ta_34 Y Y Y Y ⟨Y,Y⟩) ?_)
  refine Qcw ?_
  refine Qp ?_
  refine Zh 55 (none) (i:=4) Y Y Y Y Y (Zq Y te_31 Y (.seq _ _) Y Y (hcw2) ⟨Y,Y⟩) ?_
  refine QdX ?_
  refine Zh 57 (none) (i:=6) Y Y Y Y Y (Ze (xs:=[.tmp 51,.tmp 56]) Y Y (HW) by3 ⟨Y,Y⟩) ?_
  refine Qp ?_
  refine Zh 58 (none) (i:=8) Y Y Y Y Y (op_extract Y Y Y ⟨Y,Y⟩) ?_
  refine Zh 59 (none) (i:=9) Y Y Y Y Y (op_extract Y Y Y ⟨Y,Y⟩) ?_
  refine EOps.nw (i:=10) Y Y Y (Yl (cs':=[_,_,_,_,_,_,_,_]) Y tz_49 Y Y (fun b10=>⟨_,Y,?_⟩))
  refine Zs 6 (i:=11) Y Y Y Y Y (Zi (cs':=[_,_,_,_,_,_,_,_]) (i:=0) Y ts_49 Y Y Y Y Y (Xm Y) Y ⟨_,Y,?_⟩)
  refine Qbu ?_
  show AGo _ _ _ _ _ _ _
  refine Qc ?_
  refine Qw ?_
  refine Qaj ?_;intro c61 h61
  try replace h61:=nott h61 h59
  refine Qa ?_
  obtain ⟨rfl,g61⟩|⟨rfl,g61⟩:=Za h61
  ·refine Q7 ?_
   refine QaY ?_
   refine Qbl ?_;intro n67
   refine Q0 ?_;intro c68 h68
   refine Qa ?_
   obtain ⟨rfl,g68⟩|⟨rfl,g68⟩:=Za h68
   ·refine QbT ?_
    have hc0:code=0:=by
     cases ok with
     | true=>exact of_decide_eq_true hok
     | false=>exact absurd rfl g61
    rw [if_neg (fun q=>q hc0)] at hE
    refine Qb5 ?_
    refine Qbt ?_
    refine Qd8 ?_
    refine QR ?_
    refine Zu 75 Y Y (op_cuth (k:=j) Y te_31 Y (.seq _ _) Y by18 by18 ⟨Y,Y⟩) ?_
    refine Qbt ?_
    refine Qd8 ?_
    refine QR ?_
    refine Zu 79 Y Y (Zq Y te_31 Y (.seq _ _) Y Y (hcw2) ⟨Y,Y⟩) ?_
    refine Qdt ?_
    refine Yp 81 Y Y (fun _ q=>Zl (xs:=[.tmp 75,.tmp 80]) Y Y (HH) by3 q) ?_;intro c81 h81
    show AGo _ _ _ _ _ _ _
    refine Qc ?_
    obtain ⟨rfl,g81⟩|⟨rfl,g81⟩:=Za h81
    ·refine QN ?_
     rw [if_neg (fun q=>g81 (hasB_iff.1 q))] at hE
     refine QaX ?_
     refine Qb9 ?_
     refine Zb 87 Y Y Y (Zv (cs':=[_,_,_,_,_,_,_,_]) (i:=6) Y ta_49 Y Y Y Y (Zb 88 Y Y Y (Zd (xs:=[.tmp 87]) el_25 Y Y Y Y Y Y (Xm Y) (Zb 89 Y Y Y (Zr (i:=2) el_25 Y Y Y Y (.seq _ _) by8 ?_)))))
     intro u89
     refine Qu ?_
     refine Zp Y Y (Zi (cs':=[_,_,_,_]) (i:=3) Y ts_25 Y Y Y Y Y (Xm Y) Y ?_)
     refine Qac ?_
     refine Qaq ?_
     refine ⟨(j+1,acc2++[In.mk xc (Ty.mk xk xs xn xl) xcx xbs xp],u89),⟨by show j+1≤qdv.length;omega,by show PreG _ (qdv.take (j+1));rw [hsn];exact hp1 hc0 g81,by show derL _ (qdv.take (j+1)) _ _=D;rw [hsn];exact hE,by show (acc2++_).length≤_;rw [List.length_append,List.length_singleton];omega⟩,by show qdv.length - (j+1)<qdv.length - j;omega,by6,?_⟩
     exact Xd _ (Xc _ (Xc _ (Xe _ (Xi (Xg _) (Xi (Xg _) (Xi (Xl (by rw [In.cellss_app'];rfl)) (Xh _)))) (Xc _ (Xc _ (Xb _))))))
    refine QaG ?_
    refine QfJ ?_
    refine Qet ?_
    refine Qcw ?_
    refine Qeu ?_
    refine Qbu ?_
    refine Qbu ?_
    show AGo _ _ _ _ _ _ _
    refine Qc ?_
    rw [if_pos (hasB_iff.2 g81)] at hE
    have hDe:D.2=120:=by rw [← hE]
    rw [if_pos (by rw [hDe];decide)] at hA
    subst hA
    rw [if_pos (by show D.2≠0;rw [hDe];decide)] at hw
    replace hw:(pg0,D.2,qp)=w:=hw
    rw [hDe] at hw
    subst hw
    refine c_ret ?_
    first
    | exact Zt (i:=4) rfl rfl rfl rfl rfl ta_28 rfl by2 (Xb _) ⟨rfl,rfl⟩
   omega
  refine QaG ?_
  refine QfJ ?_
  refine Qet ?_
  refine Qcw ?_
  refine Qeu ?_
  refine Qbu ?_
  refine Qbu ?_
  show AGo _ _ _ _ _ _ _
  refine Qc ?_
  subst g61
  have hc:code≠0:=of_decide_eq_false hok
  rw [if_pos hc] at hE
  have hDe:D.2=121:=by rw [← hE]
  rw [if_pos (by rw [hDe];decide)] at hA
  subst hA
  rw [if_pos (by show D.2≠0;rw [hDe];decide)] at hw
  replace hw:(pg0,D.2,qp)=w:=hw
  rw [hDe] at hw
  subst hw
  refine c_ret ?_
  first
  | exact Zt (i:=4) rfl rfl rfl rfl rfl ta_28 rfl by2 (Xb _) ⟨rfl,rfl⟩
 omega
end Go.Proofs.YtefbicnoddggnaaGreat
namespace Go.Proofs.YtefbicnoddggnaaGreat
open Go.ChangeShapes Go.WideShapes Go.ChangeAt Go.RowKit
def Pg.tot (x:Pg):Nat:=x.da.length+x.ins.length
theorem declP_len (L:List Tok) (p:PS) (x:Pg):(declP L p x).1.tot≤x.tot+1:=by
 obtain ⟨da,cl,ins,bs⟩:=x
 unfold declP Pg.tot
 split
 ·simp only [Pg.da,Pg.ins,List.length_append,List.length_singleton];omega
 split
 ·simp only [Pg.da,Pg.ins];omega
 split
 ·simp only [Pg.da,Pg.ins,List.length_append,List.length_singleton];omega
 simp only [Pg.da,Pg.ins];omega
theorem progL_len (L:List Tok):∀ (f:Nat) (p:PS) (x:Pg),(progL L f p x).1.tot≤x.tot+f
 | 0,p,x=>Nat.le_refl _
 | f+1,p,x=>by
  rw [progL]
  split
  ·show x.tot≤_;omega
  have h1:=progL_len L f (takeP L (declP L p x).2 7 kSemi).2 (declP L p x).1
  have h2:=declP_len L p x
  omega
theorem progT_len (s:ByteArray):(progT s).1.da.length+(progT s).1.ins.length≤100000:=by
 have h:=progL_len (scanT s).1 ((scanT s).1.length+1) (beginP (scanT s)) pg0
 have h2:=scanT_len s
 unfold progT
 simp only []
 split
 ·show (0:Nat)+0≤_;omega
 have h3:pg0.tot=0:=rfl
 rw [h3] at h
 exact Nat.le_trans h by18
theorem allR_g {p:Pg} (h:∀ d∈p.da,smP d) {i:Nat} {x:In} (hx:(allR p).1.ins[i]?=some x) (hi:p.ins.length≤i):InG x:=by
 unfold allR at hx
 obtain ⟨news,e1,e2⟩:=allL_news p.da p.ins h
 split at hx
 ·simp [pg0,Pg.ins] at hx
 replace hx:(allL p.da p.ins).1[i]?=some x:=hx
 rw [e1,List.getElem?_append_right hi] at hx
 exact e2 x (Xq hx)
theorem DeriveAll_c (s:ByteArray):ACall Tryz.prog 3 [.val (.string s)] [] (fun v _=>v=.val (.bool true)):=by
 have HP:=Prog_c s
 have hlen:=progT_len s
 obtain ⟨⟨p,pe,pw⟩,hp⟩:∃ r,progT s=r:=⟨_,rfl⟩
 rw [hp] at HP hlen
 clear hp
 replace HP:PCall Tryz.prog 5 [.val (.string s)] (.tup [.agg p.cells,.val (.int .i64 pe),.val (.int .i64 pw)]):=HP
 have HS:=fun d=>small18_c d
 have HA:=fun h=>All_c p h hlen
 have HB:=fun h=>rAll_c p h hlen
 have hg:=fun h i x hx hi=>allR_g (p:=p) h (i:=i) (x:=x) hx hi
 obtain ⟨⟨q,qe,qw⟩,hq⟩:∃ r,allR p=r:=⟨_,rfl⟩
 rw [hq] at HA HB hg
 clear hq
 unfold allV at HA
 simp only [] at HB
 have HK:=rSameProg_c q q
 have hls:=HS
 clear hls
 obtain ⟨da,cl,ins,bs⟩:=p
 obtain ⟨wda,wcl,wins,wbs⟩:=q
 have hlc:=Da.cellss_len da
 have hli:=In.cellss_len ins
 have hlw:=In.cellss_len wins
 simp only [Pg.da,Pg.ins,Pg.cells] at *
 refine Zc Tryz.func3 Y (by kernel_rfl) Y (Xm Y) ?_
 refine Qbc ?_
 refine Qo ?_
 refine Zb 14 Y Y Y (Ze (xs:=[]) Y Y (awake18_c) by3 ?_)
 refine Qaj ?_;intro c15 h15
 try replace h15:=nott h15 h14
 refine Qa ?_
 obtain ⟨rfl,g15⟩|⟨rfl,g15⟩:=Za h15
 ·refine QaB ?_
  refine Qb6 ?_
  refine Q0 ?_;intro c18 h18
  refine Qa ?_
  obtain ⟨rfl,g18⟩|⟨rfl,g18⟩:=Za h18
  ·refine QY ?_
   refine Zb 21 Y Y Y (Ze (xs:=[.tmp 20]) Y Y (HP) by3 ?_)
   refine Qbf ?_
   refine Qb2 ?_
   refine QbA ?_;intro b3
   refine Qdc ?_
   refine Qav ?_
   refine QG ?_
   refine Qbo ?_
   refine QcR ?_;intro n27
   refine QaN ?_
   apply Zy (rg [(0,3),(4,4),(14,12),(28,8)]) (σ:=Nat) (fun zz=>match zz with|i=>[(28,.val (.int .i64 i))]) (fun zz=>match zz with|i=>i≤da.length∧∀ d∈da.take i,smP d) (fun zz=>match zz with|i=>da.length - i) (0)
   ·repeat' (first|exact Xp|apply Xn rfl|apply Xo rfl)
   ·exact ⟨Nat.zero_le _,by simp⟩
   ·exact by6
   rintro i hI
   try dsimp only [List.cons_append,List.nil_append] at hI ⊢
   obtain ⟨hi,hn⟩:=hI
   refine QaO ?_;intro c29 h29
   refine Qv ?_
   obtain ⟨rfl,g29⟩|⟨rfl,g29⟩:=Za h29
   ·refine QE ?_
    rw [List.take_of_length_le by18] at hn
    replace HA:=HA hn
    replace HB:=HB hn
    replace hg:=hg hn
    refine Qi ?_
    refine QdT ?_
    refine Zb 38 Y Y Y (Ze (xs:=[.tmp 37]) Y Y (HA) by3 ?_)
    refine Qbf ?_
    refine QbA ?_;intro b8
    refine Qer ?_;intro b9
    refine Zp Y Y (Zi (cs':=[_,_,_,_]) (i:=1) Y ts_28 Y Y Y Y Y (Xm Y) Y (Zp Y Y (Zi (cs':=[_,_]) (i:=0) Y ts_38 Y Y Y Y Y (Xm Y) Y ?_)))
    refine QA ?_
    refine Zb 42 Y Y Y (Zv (cs':=[_,_,_,_]) (i:=2) Y ta_28 Y Y Y Y (Zb 43 Y Y Y (Ze (xs:=[.tmp 42]) Y Y (HB) by3 ?_)))
    refine Qbf ?_
    refine Qb2 ?_
    refine QbA ?_;intro b10
    refine Qdc ?_
    refine Qav ?_
    refine QL ?_
    refine Zx 62 (False) ?_ _ _ Y ?_
    ·skip
     refine Qu ?_
     refine Qbj ?_
     refine Qb ?_
     refine Qao ?_;intro c50 h50
     refine Qb ?_
     obtain ⟨rfl,g50⟩|⟨rfl,g50⟩:=Za h50
     ·skip
      refine Qb4 ?_
      refine Qdd ?_
      refine Qd ?_
      refine QaD ?_;intro c55 h55
      refine Qq ?_
      obtain ⟨rfl,g55⟩|⟨rfl,g55⟩:=Za h55
      ·skip
       refine Zm 58 Y Y Y Y Y (Zv (cs':=[_,_,_,_]) (i:=2) Y ta_28 Y Y Y Y (Zm 59 Y Y Y Y Y (Zv (cs':=[_,_,_,_]) (i:=0) Y ta_28 Y Y Y Y (Zm 60 Y Y Y Y Y (Zl (xs:=[.tmp 58,.tmp 59]) Y Y (HK) by3 ?_)))));intro c60 h60
       refine Qa5 ?_;intro c61 h61
       try replace h61:=nott h61 h60
       refine Qg ?_
       refine Xk Y ?_ by7 by5
       clear HP HS HA HB HK hg;first|(simp_all;done)|(simp_all;omega)
      skip
      refine Qm ?_
      refine Qg ?_
      refine Xk Y ?_ by7 by5
      clear HP HS HA HB HK hg;first|(simp_all;done)|(simp_all;omega)
     skip
     refine Qm ?_
     refine Q1 ?_
     refine Qg ?_
     refine Xk Y ?_ by7 by5
     clear HP HS HA HB HK hg;first|(simp_all;done)|(simp_all;omega)
    intro c62 h62
    refine Qc ?_
    obtain ⟨rfl,g62⟩|⟨rfl,g62⟩:=Za h62
    ·refine Qcv ?_
     refine Zb 65 Y Y Y (Yk Y tu_25 Y (.seq _ _) (fun n65=>?_))
     refine QaN ?_
     apply Zy (rg [(0,3),(4,4),(9,1),(11,54),(66,23)]) (σ:=Nat) (fun zz=>match zz with|k=>[(66,.val (.int .i64 k))]) (fun zz=>match zz with|k=>k≤wins.length) (fun zz=>match zz with|k=>wins.length - k) (0)
     ·repeat' (first|exact Xp|apply Xn rfl|apply Xo rfl)
     ·exact Nat.zero_le _
     ·exact by6
     rintro k hI
     try dsimp only [List.cons_append,List.nil_append] at hI ⊢
     have hk:=hI
     refine QaO ?_;intro c67 h67
     refine Qv ?_
     obtain ⟨rfl,g67⟩|⟨rfl,g67⟩:=Za h67
     ·refine QaM ?_
      exact Zg Y Y (Xg _) (Xb _) Y
     refine Qae ?_
     refine QJ ?_
     refine Qaw ?_
     obtain ⟨⟨yc,⟨yhdk,yhds,yhdn,yhdl⟩,ycx,ybs,yp⟩,hxy⟩:=Zo (l:=wins) (i:=k) by9
     have hcy:=In.cellss_get hxy
     have hmy:=Xq hxy
     have HXk:=fun (h:ins.length≤k)=>same18_c _ (hg k _ hxy h).1 (hg k _ hxy h).2
     refine c_boold 87 (False) tmix Y ?_ _ _ Y ?_
     ·skip
      refine QR ?_
      refine Qbt ?_
      refine Zu 71 Y Y (Yn (i:=3) Y ta_25 Y Y Y ⟨Y,Y⟩) ?_
      refine Zu 72 Y Y (Yk Y tu_25 Y (.seq _ _) (fun _=>⟨Y,Y⟩)) ?_
      refine Yp 73 Y Y (fun _ q=>op_geq Y Y Y q) ?_;intro c73 h73
      refine QR ?_
      obtain ⟨rfl,g73⟩|⟨rfl,g73⟩:=Za h73
      ·skip
       refine Qaf ?_
       refine Qaf ?_
       refine Qaf ?_
       refine QaK ?_
       show BoolQ _ _ _ _ _ _
       refine Xk Y ?_ by7 by5
       clear HP HS HA HB HK hg HXk;first|(simp_all;done)|(simp_all;omega)
      skip
      refine QdG ?_
      refine Yq 76 Y Y Y Y (Yn (i:=2) Y ta_25 Y Y Y ⟨Y,Y⟩) ?_
      refine Qb7 ?_
      refine QfK ?_
      refine QfL ?_
      refine QdG ?_
      refine Yq 81 Y Y Y Y (Yn (i:=0) Y ta_25 Y Y Y ⟨Y,Y⟩) ?_
      refine Qb7 ?_
      refine QfK ?_
      refine QfL ?_
      refine Yq 85 Y Y Y Y (Ze (xs:=[.tmp 79,.tmp 84]) Y Y (HXk by18) by3 ⟨Y,Y⟩) ?_
      refine DOps.gtc 86 Y Y Y Y (fun _ q=>op_notc Y Y q) ?_;intro c86 h86
      try replace h86:=nott h86 h85
      refine QaK ?_
      show BoolQ _ _ _ _ _ _
      refine Xk Y ?_ by7 by5
      clear HP HS HA HB HK hg HXk;first|(simp_all;done)|(simp_all;omega)
     intro c87 h87
     refine Qc ?_
     obtain ⟨rfl,g87⟩|⟨rfl,g87⟩:=Za h87
     ·refine Qau ?_
      refine Qax ?_
      exact ⟨k+1,by show k+1≤wins.length;omega,by show wins.length - (k+1)<wins.length - k;omega,by6,by5⟩
     exact g87.elim
    exact g62.elim
   refine Qx ?_
   obtain ⟨⟨qs,qps,qcs,qdv,qp⟩,hxq⟩:=Zo (l:=da) (i:=i) by9
   have hcq:=Da.cellss_get hxq
   have hmq:=Xq hxq
   have hsn:=Yg hxq
   have HSq:=HS (Da.mk qs qps qcs qdv qp)
   refine Qi ?_
   refine Qes ?_
   refine QbK ?_
   refine Qda ?_;intro b7
   refine Qdo ?_
   refine QA ?_
   refine Qdp ?_
   refine Zb 33 Y Y Y (Zl (xs:=[.tmp 32]) Y Y (HSq) by3 ?_);intro c33 h33
   refine Qaj ?_;intro c34 h34
   try replace h34:=nott h34 h33
   refine Qa ?_
   obtain ⟨rfl,g34⟩|⟨rfl,g34⟩:=Za h34
   ·refine Qau ?_
    refine Qax ?_
    exact ⟨i+1,⟨by show i+1≤da.length;omega,fun c hc=>by
     rw [hsn] at hc
     rcases List.mem_append.1 hc with hc|hc
     ·exact hn c hc
     rw [List.mem_singleton] at hc;subst hc;exact Classical.not_not.1 g34⟩,by show da.length - (i+1)<da.length - i;omega,by6,by5⟩
   refine Qr ?_
   exact Zg Y Y (Xg _) (Xb _) Y
  refine Qr ?_
  exact Zg Y Y (Xg _) (Xb _) Y
 refine QaG ?_
 exact absurd g15 by19
theorem deriveAll_own:ownKnob Tryz.prog.godebug=none:=by kernel_rfl
theorem deriveAll_laidOut:laidOutB Tryz.prog=true:=by kernel_rfl
theorem deriveAll_lifted (os:Os) (started:os.Started) (H:Type) (enc:TypeId × Value→H) :
    ReturnsInHanded {} Tryz.checked os 3 .any (Rows.deriveAllSpec.pre6 enc Tryz.prog Tryz.f3 Rows.deriveAllRow.domain false) (Rows.deriveAllSpec.post enc Tryz.prog Tryz.f3 false true false false):=by
 refine returnsInHanded_of_change_sized (C:=Tryz.checked) deriveAll_own started (by kernel_rfl) Tryz.func3
  (ChangeSpec.witness6 (enc:=enc) (C:=Tryz.checked) false ⟨#[],#[.string ⟨#[]⟩],[]⟩ 8 (by kernel_rfl) (by kernel_rfl) (by kernel_rfl) (by kernel_rfl)) ?_
 intro W base args ds gs before hval0 hW hcnd hsz0 _
 have hval:∀ (j:Nat) t v,Tryz.f3.params[j]?=some t→args[j]?=some v→Value.okWide Tryz.prog W .any base t v:=hval0
 have hsz:(DataW.weightsEach Tryz.prog (Tryz.f3.params.toList++Rows.deriveAllSpec.plain.varTypes Tryz.prog) (ds++gs)).all (·≤reachBytes)=true:=hsz0
 have hW':=hW
 obtain ⟨p,q,hA0,hV,rfl,hfz,hnd⟩:=hW
 have hA:DataW.TrodAll enc Tryz.prog W 0 (fun _=>true) true Tryz.f3.params.toList args.toList ds p:=hA0
 rw [Tryz.params3] at hA hval hsz
 obtain ⟨rfl,rfl⟩:=trodVars_none hV
 obtain ⟨v0,d0,rfl,rfl,h0⟩:=trodAll_one hA
 obtain ⟨f0,c0,s0,r0,o0⟩:=open_one closed18 by17 h0
 obtain ⟨s,l0,rfl⟩:=shape_str tu_9 s0
 refine (law_run (DeriveAll_c s) (.cons (rel_cell (okw_str Tryz.underlying9 (hval 0 9 v0 rfl rfl)) r0) .nil)).mono fun e W' ⟨he,hb⟩=>?_
 subst he
 exact ⟨_,Y,law_post (tb:=4) deriveAll_laidOut (by kernel_rfl) (by kernel_rfl) Tryz.underlying4 Y Y Y Y hW' hb⟩
theorem deriveAll_holds:Rows.DeriveAllSaid :=
 OpenClaim.holds_of_wide 3 Tryz.f3 rfl rfl rfl rfl rfl rfl rfl ⟨rfl,rfl,rfl,rfl,rfl⟩ rfl rfl rfl rfl rfl (by kernel_rfl) Tryz.func3 (by kernel_rfl)
  (of_decide_eq_true (by kernel_rfl)) (by unfold Func.isWrapper;first|(rw [if_pos by14];kernel_rfl)|(rw [if_neg by14];exact ⟨rfl,rfl⟩))
  (fun os started H enc _=>deriveAll_lifted os started H enc)
#print axioms deriveAll_holds
end Go.Proofs.YtefbicnoddggnaaGreat
