/- Parts of a proof: sameness of types, patterns, expressions: tree.SameType, SamePat, Same, sameBind, and the document's; Equality of declarations: tree.SameProg and what it calls, cognateref05.SameProg and what it calls.; small functions of layers 5 and 8: Has, HasInt, Index, Contains, IsFun, fun, Fun, Con, Clone, kids; tree.Names, cognateref05.Names; tree.search; tree.Free; tree.search.exp, tree.Free; tree.parts as an iterator; tree.Size and tree.Deep; cognateref05.Parts, Size, Deep; tree.Value, cognateref05.Value; cognatelaw05.Awake; cognatelaw05.Awake; cognateref05.Parts, Size, Deep; cognatelaw05.Count, Small; cognateref05.Size, Deep; cognatelaw05.Count, Small; cognatelaw05.Count, Small; cognateref05.SameProg and what it calls; cognatelaw05.Few.; Bytes as a text.; The logic of trees, part 18: calls of what Go gives without a body; texts, greater.; the document's lexer: what bytes are; the document's lexer: over; the document's lexer: among, Key, Mark; Utf, bad; the document's lexer: bad; the document's lexer: text; cognateref01.Parse of digits; the document's lexer: one; the document's lexer: one, names and signs; the document's lexer: one, digits; the document's lexer: one, Scan; the document's lexer: Scan; the document's parser: next, is; the document's parser: it goes on, and never comes out of the tokens; the document's parser: it goes on: expressions, declarations; The logic of trees, part 19: calls that turn one piece of the memory; a nil as a slice of the call's own.; the document's parser: fail, take, may, deeper; the document's parser: name, uppers, starts; the document's parser: atype, Type; the document's parser: apat, pat; fix.Level; cognateref04.Level; the document's operators: Level, Side, Clash; the document's parser: Build -/
import Derived.Test.YtefbicnoddggnaaKLKInst2
import Derived.Laws.BytesArg
import Derived.Lib.Bytealg
set_option maxRecDepth 100000
set_option maxHeartbeats 4000000
namespace Go.Proofs.Ytefbicnoddggnaa
open Go.RowKit
theorem rSamePat_c (a:Pa):∀ b:Pa,BCall Try.prog 78 [.agg a.cells,.agg b.cells] (a.bare=b.bare):=by
 obtain ⟨k1,s1,n1,ks1,p1⟩:=a
 rintro ⟨k2,s2,n2,ks2,p2⟩
 have IH:∀ x∈ks1,∀ y:Pa,BCall Try.prog 78 [.agg x.cells,.agg y.cells] (x.bare=y.bare):=fun x hx y=>rSamePat_c x y
 have hl1:=Pa.cellss_len ks1
 have hl2:=Pa.cellss_len ks2
 refine Zc Try.func78 Y (by kernel_rfl) Y (Xb Y) ?_
 refine Qan ?_
 refine c_lena (t:=0) (j:=3) Y Y (.seq _ _) (fun hmax=>?_)
 refine Qn ?_
 refine QcD ?_
 refine QcD ?_
 refine Qbx ?_
 refine Zt 33 (¬ (k1=k2∧s1=s2∧n1=n2∧ks1.length=ks2.length)) ?_ _ _ Y ?_
 ·skip
  refine Ql ?_
  refine Ql ?_
  refine Q5 ?_;intro c10 h10
  refine Qb ?_
  obtain ⟨rfl,g10⟩|⟨rfl,g10⟩:=Za h10
  ·skip
   refine Qw ?_
   refine Qw ?_
   refine Qcp ?_;intro c16 h16
   refine Qp ?_
   obtain ⟨rfl,g16⟩|⟨rfl,g16⟩:=Za h16
   ·skip
    refine Qw ?_
    refine Qw ?_
    refine Qbe ?_;intro c23 h23
    refine Qp ?_
    obtain ⟨rfl,g23⟩|⟨rfl,g23⟩:=Za h23
    ·skip
     refine Qw ?_
     refine Zk 28 Y Y Y Y Y (op_len Y tu_50 Y (.seq _ _) (fun n28=>?_))
     refine Qw ?_
     refine Zk 31 Y Y Y Y Y (op_len Y tu_50 Y (.seq _ _) (fun n31=>?_))
     refine Qbe ?_;intro c32 h32
     refine Qf ?_
     refine Yz Y ?_ by7 by5
     simp_all;omega
    skip
    refine Qh ?_
    refine Qad ?_
    refine Qf ?_
    refine Yz Y ?_ by7 by5
    simp_all;done
   skip
   refine Qbi ?_
   refine Qa9 ?_
   refine Qf ?_
   refine Yz Y ?_ by7 by5
   simp_all;done
  skip
  refine Qbi ?_
  refine Q9 ?_
  refine Q1 ?_
  refine Qa9 ?_
  refine Qf ?_
  refine Yz Y ?_ by7 by5
  simp_all;done
 intro c33 h33
 refine Qe ?_
 obtain ⟨rfl,g33⟩|⟨rfl,g33⟩:=Za h33
 ·refine Qt ?_
  refine QM ?_
  refine c_loop (σ:=Nat) (fun zz=>match zz with|i=>[(2,.cptr (Pa.mk k1 s1 n1 ks1 p1).cells),(3,.cptr (Pa.mk k2 s2 n2 ks2 p2).cells),(5,.val (.int .i64 i))]) (fun zz=>match zz with|i=>[]) (fun zz=>match zz with|i=>i≤ks1.length∧Upto (ks1.map Pa.bare) (ks2.map Pa.bare) i) (fun zz=>match zz with|i=>ks1.length - i) (0) ?_ ?_ ?_ ?_
  ·exact ⟨by omega,Upto.zero _ _⟩
  ·exact by6
  ·exact by5
  rintro i hI
  try dsimp only [List.cons_append,List.nil_append] at hI ⊢
  obtain ⟨hi,hu⟩:=hI
  obtain ⟨e1,e2,e3,e4⟩:=Classical.not_not.1 g33
  refine Q6 ?_
  refine Qdu ?_;intro n37
  refine Qm ?_;intro c38 h38
  refine Qa ?_
  obtain ⟨rfl,g38⟩|⟨rfl,g38⟩:=Za h38
  ·refine Qbh ?_
   refine Zg Y Y (Yv _) by5 ⟨⟨_,iff_t ?_,Y⟩,Y⟩
   rw [Pa.bare_iff]
   exact ⟨e1,e2,e3,hu.eq (by simpa using e4) by13⟩
  refine QI ?_
  obtain ⟨⟨xk,xs,xn,xks,xp⟩,hx⟩:=Zn (l:=ks1) (i:=i) by16
  obtain ⟨⟨yk,ys,yn,yks,yp⟩,hy⟩:=Zn (l:=ks2) (i:=i) by16
  have hcx:=Pa.cellss_get hx
  have hcy:=Pa.cellss_get hy
  refine c_drawn tmix Y ?_
  refine QaX ?_
  refine QdR ?_
  refine Qc9 ?_
  refine QaX ?_
  refine QdR ?_
  refine Qc9 ?_
  refine DOps.cm 51 Y Y (fun _ q=>Zj (xs:=[.tmp 45,.tmp 50]) Y Y (IH _ (Xf hx) ⟨yk,ys,yn,yks,yp⟩) by3 q) ?_;intro c51 h51
  refine DOps.cm 52 Y Y (fun _ q=>op_notc Y Y q) ?_;intro c52 h52
  try replace h52:=nott h52 h51
  show AGo _ _ _ _ _ _ _
  refine Qe ?_
  obtain ⟨rfl,g52⟩|⟨rfl,g52⟩:=Za h52
  ·refine Qaz ?_
   exact ⟨i+1,⟨by omega,upto_map Pa.bare hu hx hy (Classical.not_not.1 g52)⟩,by simp;omega,by6,by5⟩
  refine QD ?_
  refine Zg Y Y (Yv _) by5 ⟨⟨_,iff_f (fun q=>?_),Y⟩,Y⟩
  rw [Pa.bare_iff] at q
  exact map_ne Pa.bare hx hy g52 q.2.2.2
 refine QD ?_
 refine Zg Y Y (Yv _) by5 ⟨⟨_,iff_f (fun q=>g33 ?_),Y⟩,Y⟩
 rw [Pa.bare_iff] at q
 exact ⟨q.1,q.2.1,q.2.2.1,by simpa using congrArg List.length q.2.2.2⟩
termination_by SizeOf.sizeOf a
decreasing_by exact Pa.lt_kid hx
theorem SameBinds_of (xs ys:List Bi) (IH:∀ x∈xs,∀ y:Ex,BCall Try.prog 61 [.agg x.e.cells,.agg y.cells] (x.e.bare=y.bare)):BCall Try.prog 42 [.seq 13 (Bi.cellss xs),.seq 13 (Bi.cellss ys)] (xs.map Bi.bare=ys.map Bi.bare):=by
 have hlx:=Bi.cellss_len xs
 have hly:=Bi.cellss_len ys
 refine Zc Try.func42 Y (by kernel_rfl) Y (Xb Y) ?_
 refine Qan ?_
 refine c_lens (t:=0) Y (.seq _ _) (fun hmax=>?_)
 refine QC ?_
 refine QU ?_
 refine QcE ?_;intro n7
 refine Qb ?_
 refine QcE ?_;intro n9
 refine Q5 ?_;intro c10 h10
 refine Qa ?_
 obtain ⟨rfl,g10⟩|⟨rfl,g10⟩:=Za h10
 ·refine Qt ?_
  refine QM ?_
  refine c_loop (σ:=Nat) (fun zz=>match zz with|i=>[(0,.seq 13 (Bi.cellss xs)),(1,.seq 13 (Bi.cellss ys)),(5,.val (.int .i64 i))]) (fun zz=>match zz with|i=>[]) (fun zz=>match zz with|i=>i≤xs.length∧Upto (xs.map Bi.bare) (ys.map Bi.bare) i) (fun zz=>match zz with|i=>xs.length - i) (0) ?_ ?_ ?_ ?_
  ·exact ⟨by omega,Upto.zero _ _⟩
  ·exact by6
  ·exact by5
  rintro i hI
  try dsimp only [List.cons_append,List.nil_append] at hI ⊢
  obtain ⟨hi,hu⟩:=hI
  refine Qal ?_
  refine QcE ?_;intro n13
  refine Qm ?_;intro c14 h14
  refine Qa ?_
  obtain ⟨rfl,g14⟩|⟨rfl,g14⟩:=Za h14
  ·refine Qbh ?_
   exact Zg Y Y (Yv _) by5 ⟨⟨_,iff_t (hu.eq by13 by13),Y⟩,Y⟩
  refine QI ?_
  obtain ⟨⟨bs1,⟨k1,s1,n1,⟨tk1,ts1,tn1,tks1⟩,ks1,al1,bb1,p1⟩,bp1⟩,hx⟩:=Zn (l:=xs) (i:=i) by16
  obtain ⟨⟨bs2,⟨k2,s2,n2,⟨tk2,ts2,tn2,tks2⟩,ks2,al2,bb2,p2⟩,bp2⟩,hy⟩:=Zn (l:=ys) (i:=i) by16
  have hcx:=Bi.cellss_get hx
  have hcy:=Bi.cellss_get hy
  have HS:=IH _ (Xf hx) ⟨k2,s2,n2,⟨tk2,ts2,tn2,tks2⟩,ks2,al2,bb2,p2⟩
  have hne:=fun e=>map_ne Bi.bare hx hy e
  have heq:=fun e=>upto_map Bi.bare hu hx hy e
  rw [Bi.bare_iff] at hne heq
  simp only [Bi.e] at HS
  generalize (Ex.mk k1 s1 n1 ⟨tk1,ts1,tn1,tks1⟩ ks1 al1 bb1 p1).bare=e1 at *
  generalize (Ex.mk k2 s2 n2 ⟨tk2,ts2,tn2,tks2⟩ ks2 al2 bb2 p2).bare=e2 at *
  refine c_boold 41 (¬ (bs1=bs2∧e1=e2)) tmix Y ?_ _ _ Y ?_
  ·skip
   refine Qap ?_
   refine Qap ?_
   refine QdS ?_
   refine QaX ?_
   refine Qap ?_
   refine QdS ?_
   refine QbI ?_
   refine Qcm ?_
   refine DOps.cm 27 Y Y (fun _ q=>op_sneq Y Y Y q) ?_;intro c27 h27
   refine Qap ?_
   obtain ⟨rfl,g27⟩|⟨rfl,g27⟩:=Za h27
   ·skip
    refine Qbf ?_
    refine Qbf ?_
    refine QdT ?_
    refine QaT ?_
    refine QcV ?_
    refine Qbf ?_
    refine Qbf ?_
    refine QdT ?_
    refine QaT ?_
    refine QcV ?_
    refine DOps.gtc 39 Y Y Y Y (fun _ q=>Zj (xs:=[.tmp 33,.tmp 38]) Y Y (HS) by3 q) ?_;intro c39 h39
    refine DOps.gtc 40 Y Y Y Y (fun _ q=>op_notc Y Y q) ?_;intro c40 h40
    try replace h40:=nott h40 h39
    refine Qbn ?_
    show BoolQ _ _ _ _ _ _
    refine Yz Y ?_ by7 by5
    simp_all
   skip
   refine QaY ?_
   refine QaY ?_
   refine QaY ?_
   refine Qbn ?_
   show BoolQ _ _ _ _ _ _
   refine Yz Y ?_ by7 by5
   simp_all
  intro c41 h41
  refine Qe ?_
  obtain ⟨rfl,g41⟩|⟨rfl,g41⟩:=Za h41
  ·refine Qaz ?_
   exact ⟨i+1,⟨by omega,heq (Classical.not_not.1 g41)⟩,by simp;omega,by6,by5⟩
  refine QD ?_
  exact Zg Y Y (Yv _) by5 ⟨⟨_,iff_f (hne g41),Y⟩,Y⟩
 refine QD ?_
 exact Zg Y Y (Yv _) by5 ⟨⟨_,iff_f (map_len_ne _ by16),Y⟩,Y⟩
theorem rSame_c (a:Ex):∀ b:Ex,BCall Try.prog 61 [.agg a.cells,.agg b.cells] (a.bare=b.bare):=by
 obtain ⟨k1,s1,n1,⟨tk1,ts1,tn1,tks1⟩,ks1,al1,bb1,p1⟩:=a
 rintro ⟨k2,s2,n2,⟨tk2,ts2,tn2,tks2⟩,ks2,al2,bb2,p2⟩
 have HK:∀ x∈ks1,∀ y:Ex,BCall Try.prog 61 [.agg x.cells,.agg y.cells] (x.bare=y.bare):=fun x hx y=>rSame_c x y
 have HA:∀ x∈al1,∀ y:Ex,BCall Try.prog 61 [.agg x.e.cells,.agg y.cells] (x.e.bare=y.bare):=fun x hx y=>rSame_c x.e y
 have HB:=SameBinds_of bb1 bb2 (fun x hx y=>rSame_c x.e y)
 have HT:=SameType_c ⟨tk1,ts1,tn1,tks1⟩ ⟨tk2,ts2,tn2,tks2⟩
 have hk1:=Ex.cellss_len ks1
 have hk2:=Ex.cellss_len ks2
 have ha1:=Al.cellss_len al1
 have ha2:=Al.cellss_len al2
 rw [Ex.bare_iff]
 generalize bb1.map Bi.bare=mb1 at *
 generalize bb2.map Bi.bare=mb2 at *
 refine Zc Try.func61 Y (by kernel_rfl) Y (Xb Y) ?_
 refine Qan ?_
 refine c_lena (t:=0) (j:=7) Y Y (.seq _ _) (fun hmax=>?_)
 refine c_lena (t:=0) (j:=8) Y Y (.seq _ _) (fun hmax2=>?_)
 refine Qn ?_
 refine QcF ?_
 refine QcF ?_
 refine Qbx ?_
 refine Zt 59 (¬ (k1=k2∧s1=s2∧n1=n2∧Ty.mk tk1 ts1 tn1 tks1=Ty.mk tk2 ts2 tn2 tks2∧ks1.length=ks2.length∧al1.length=al2.length∧mb1=mb2)) ?_ _ _ Y ?_
 ·skip
  refine Ql ?_
  refine Ql ?_
  refine Q5 ?_;intro c11 h11
  refine Qb ?_
  obtain ⟨rfl,g11⟩|⟨rfl,g11⟩:=Za h11
  ·skip
   refine Qw ?_
   refine Qw ?_
   refine Qcp ?_;intro c17 h17
   refine Qp ?_
   obtain ⟨rfl,g17⟩|⟨rfl,g17⟩:=Za h17
   ·skip
    refine Qw ?_
    refine Qw ?_
    refine Qbe ?_;intro c24 h24
    refine Qp ?_
    obtain ⟨rfl,g24⟩|⟨rfl,g24⟩:=Za h24
    ·skip
     refine QcB ?_
     refine Qda ?_
     refine QcB ?_
     refine Qda ?_
     refine Zk 31 Y Y Y Y Y (Zj (xs:=[.tmp 28,.tmp 30]) Y Y (HT) by3 ?_);intro c31 h31
     refine QcG ?_;intro c32 h32
     try replace h32:=nott h32 h31
     refine Qp ?_
     obtain ⟨rfl,g32⟩|⟨rfl,g32⟩:=Za h32
     ·skip
      refine Qw ?_
      refine Qdb ?_;intro n37
      refine Qw ?_
      refine Qdb ?_;intro n40
      refine Qbe ?_;intro c41 h41
      refine Qp ?_
      obtain ⟨rfl,g41⟩|⟨rfl,g41⟩:=Za h41
      ·skip
       refine Qw ?_
       refine Qdc ?_;intro n46
       refine Qw ?_
       refine Qdc ?_;intro n49
       refine Qbe ?_;intro c50 h50
       refine Qp ?_
       obtain ⟨rfl,g50⟩|⟨rfl,g50⟩:=Za h50
       ·skip
        refine Qw ?_
        refine Qw ?_
        refine Zk 57 Y Y Y Y Y (Zj (xs:=[.tmp 54,.tmp 56]) Y Y (HB) by3 ?_);intro c57 h57
        refine QcG ?_;intro c58 h58
        try replace h58:=nott h58 h57
        refine Qf ?_
        refine Yz Y ?_ by7 by5
        (have w1:ks1.length=ks2.length:=by16);(have w2:al1.length=al2.length:=by16);simp_all;done
       skip
       refine Qh ?_
       refine Qae ?_
       refine Yz Y ?_ by7 by5
       simp_all;omega
      skip
      refine Qh ?_
      refine Qad ?_
      refine Q9 ?_
      refine Qae ?_
      refine Yz Y ?_ by7 by5
      simp_all;omega
     skip
     refine Qh ?_
     refine Qad ?_
     refine Qa9 ?_
     refine Q9 ?_
     refine Qae ?_
     refine Yz Y ?_ by7 by5
     simp_all;done
    skip
    refine Qh ?_
    refine QZ ?_
    refine Qa9 ?_
    refine Qa9 ?_
    refine Q9 ?_
    refine Qae ?_
    refine Yz Y ?_ by7 by5
    simp_all;done
   skip
   refine Qbi ?_
   refine Q9 ?_
   refine QZ ?_
   refine Qa9 ?_
   refine Qa9 ?_
   refine Q9 ?_
   refine Qae ?_
   refine Yz Y ?_ by7 by5
   simp_all;done
  skip
  refine Qbi ?_
  refine Q9 ?_
  refine Q1 ?_
  refine Q9 ?_
  refine QZ ?_
  refine Qa9 ?_
  refine Qa9 ?_
  refine Q9 ?_
  refine Qae ?_
  refine Yz Y ?_ by7 by5
  simp_all;done
 intro c59 h59
 refine Qe ?_
 obtain ⟨rfl,g59⟩|⟨rfl,g59⟩:=Za h59
 ·refine Qt ?_
  refine QM ?_
  obtain ⟨e1,e2,e3,e4,e5,e6,e7⟩:=Classical.not_not.1 g59
  refine c_loop (σ:=Nat) (fun zz=>match zz with|i=>[(2,.cptr (Ex.mk k1 s1 n1 ⟨tk1,ts1,tn1,tks1⟩ ks1 al1 bb1 p1).cells),(3,.cptr (Ex.mk k2 s2 n2 ⟨tk2,ts2,tn2,tks2⟩ ks2 al2 bb2 p2).cells),(5,.val (.int .i64 i))]) (fun zz=>match zz with|i=>[]) (fun zz=>match zz with|i=>i≤ks1.length∧Upto (ks1.map Ex.bare) (ks2.map Ex.bare) i) (fun zz=>match zz with|i=>ks1.length - i) (0) ?_ ?_ ?_ ?_
  ·exact ⟨by omega,Upto.zero _ _⟩
  ·exact by6
  ·exact by5
  rintro i hI
  try dsimp only [List.cons_append,List.nil_append] at hI ⊢
  obtain ⟨hi,hu⟩:=hI
  refine Q6 ?_
  refine Qdv ?_;intro n63
  refine Qm ?_;intro c64 h64
  refine Qa ?_
  obtain ⟨rfl,g64⟩|⟨rfl,g64⟩:=Za h64
  ·refine QN ?_
   refine QM ?_
   have hks:=hu.eq (by simpa using e5) by13
   refine c_loop (σ:=Nat) (fun zz=>match zz with|j=>[(2,.cptr (Ex.mk k1 s1 n1 ⟨tk1,ts1,tn1,tks1⟩ ks1 al1 bb1 p1).cells),(3,.cptr (Ex.mk k2 s2 n2 ⟨tk2,ts2,tn2,tks2⟩ ks2 al2 bb2 p2).cells),(6,.val (.int .i64 j))]) (fun zz=>match zz with|j=>[]) (fun zz=>match zz with|j=>j≤al1.length∧Upto (al1.map Al.bare) (al2.map Al.bare) j) (fun zz=>match zz with|j=>al1.length - j) (0) ?_ ?_ ?_ ?_
   ·exact ⟨by omega,Upto.zero _ _⟩
   ·exact by6
   ·exact by5
   rintro j hI
   try dsimp only [List.cons_append,List.nil_append] at hI ⊢
   obtain ⟨hj,hv⟩:=hI
   refine Q6 ?_
   refine Qcq ?_;intro n82
   refine Qm ?_;intro c83 h83
   refine Qa ?_
   obtain ⟨rfl,g83⟩|⟨rfl,g83⟩:=Za h83
   ·refine Qbh ?_
    exact Zg Y Y (Yv _) by5 ⟨⟨_,iff_t ⟨e1,e2,e3,e4,hks,hv.eq (by simpa using e6) by13,e7⟩,Y⟩,Y⟩
   refine QI ?_
   obtain ⟨⟨⟨xqk,xqs,xqn,xqks,xqp⟩,⟨xk,xs,xn,⟨xtk,xts,xtn,xtks⟩,xks,xal,xbs,xp⟩⟩,hx⟩:=Zn (l:=al1) (i:=j) by16
   obtain ⟨⟨⟨yqk,yqs,yqn,yqks,yqp⟩,⟨yk,ys,yn,⟨ytk,yts,ytn,ytks⟩,yks,yal,ybs,yp⟩⟩,hy⟩:=Zn (l:=al2) (i:=j) by16
   have hcx:=Al.cellss_get hx
   have hcy:=Al.cellss_get hy
   have HS:=HA _ (Xf hx) ⟨yk,ys,yn,⟨ytk,yts,ytn,ytks⟩,yks,yal,ybs,yp⟩
   have HP:=rSamePat_c ⟨xqk,xqs,xqn,xqks,xqp⟩ ⟨yqk,yqs,yqn,yqks,yqp⟩
   have hne:=fun e=>map_ne Al.bare hx hy e
   have heq:=fun e=>upto_map Al.bare hv hx hy e
   rw [Al.bare_iff] at hne heq
   simp only [Al.e] at HS
   generalize (Ex.mk xk xs xn ⟨xtk,xts,xtn,xtks⟩ xks xal xbs xp).bare=ex at *
   generalize (Ex.mk yk ys yn ⟨ytk,yts,ytn,ytks⟩ yks yal ybs yp).bare=ey at *
   generalize (Pa.mk xqk xqs xqn xqks xqp).bare=qx at *
   generalize (Pa.mk yqk yqs yqn yqks yqp).bare=qy at *
   refine c_boold 115 (¬ (qx=qy∧ex=ey)) tmix Y ?_ _ _ Y ?_
   ·skip
    refine QaX ?_
    refine QdU ?_
    refine QbI ?_
    refine Qc9 ?_
    refine QaX ?_
    refine QdU ?_
    refine QbI ?_
    refine Qc9 ?_
    refine DOps.cm 98 Y Y (fun _ q=>Zj (xs:=[.tmp 91,.tmp 97]) Y Y (HP) by3 q) ?_;intro c98 h98
    refine DOps.cm 99 Y Y (fun _ q=>op_notc Y Y q) ?_;intro c99 h99
    try replace h99:=nott h99 h98
    refine Qap ?_
    obtain ⟨rfl,g99⟩|⟨rfl,g99⟩:=Za h99
    ·skip
     refine QaT ?_
     refine QcH ?_
     refine Qbf ?_
     refine QdV ?_
     refine QaT ?_
     refine QcV ?_
     refine QaT ?_
     refine QcH ?_
     refine Qbf ?_
     refine QdV ?_
     refine QaT ?_
     refine QcV ?_
     refine DOps.gtc 113 Y Y Y Y (fun _ q=>Zj (xs:=[.tmp 106,.tmp 112]) Y Y (HS) by3 q) ?_;intro c113 h113
     refine DOps.gtc 114 Y Y Y Y (fun _ q=>op_notc Y Y q) ?_;intro c114 h114
     try replace h114:=nott h114 h113
     refine Qbn ?_
     show BoolQ _ _ _ _ _ _
     refine Yz Y ?_ by7 by5
     simp_all
    skip
    refine QaY ?_
    refine QaY ?_
    refine QaY ?_
    refine Qa4 ?_
    refine Qa4 ?_
    refine Qbn ?_
    show BoolQ _ _ _ _ _ _
    refine Yz Y ?_ by7 by5
    simp_all
   intro c115 h115
   refine Qe ?_
   obtain ⟨rfl,g115⟩|⟨rfl,g115⟩:=Za h115
   ·refine Qaz ?_
    exact ⟨j+1,⟨by omega,heq (Classical.not_not.1 g115)⟩,by simp;omega,by6,by5⟩
   refine QD ?_
   exact Zg Y Y (Yv _) by5 ⟨⟨_,iff_f (fun q=>hne g115 q.2.2.2.2.2.1),Y⟩,Y⟩
  refine QI ?_
  obtain ⟨⟨xk,xs,xn,⟨xtk,xts,xtn,xtks⟩,xks,xal,xbs,xp⟩,hx⟩:=Zn (l:=ks1) (i:=i) by16
  obtain ⟨⟨yk,ys,yn,⟨ytk,yts,ytn,ytks⟩,yks,yal,ybs,yp⟩,hy⟩:=Zn (l:=ks2) (i:=i) by16
  have hcx:=Ex.cellss_get hx
  have hcy:=Ex.cellss_get hy
  refine c_drawn tmix Y ?_
  refine QaX ?_
  refine QdW ?_
  refine QdX ?_
  refine QaX ?_
  refine QdW ?_
  refine QdX ?_
  refine DOps.cm 77 Y Y (fun _ q=>Zj (xs:=[.tmp 71,.tmp 76]) Y Y (HK _ (Xf hx) ⟨yk,ys,yn,⟨ytk,yts,ytn,ytks⟩,yks,yal,ybs,yp⟩) by3 q) ?_;intro c77 h77
  refine DOps.cm 78 Y Y (fun _ q=>op_notc Y Y q) ?_;intro c78 h78
  try replace h78:=nott h78 h77
  show AGo _ _ _ _ _ _ _
  refine Qe ?_
  obtain ⟨rfl,g78⟩|⟨rfl,g78⟩:=Za h78
  ·refine Qaz ?_
   exact ⟨i+1,⟨by omega,upto_map Ex.bare hu hx hy (Classical.not_not.1 g78)⟩,by simp;omega,by6,by5⟩
  refine QD ?_
  exact Zg Y Y (Yv _) by5 ⟨⟨_,iff_f (fun q=>map_ne Ex.bare hx hy g78 q.2.2.2.2.1),Y⟩,Y⟩
 refine QD ?_
 exact Zg Y Y (Yv _) by5 ⟨⟨_,iff_f (fun q=>g59 ⟨q.1,q.2.1,q.2.2.1,q.2.2.2.1,by simpa using congrArg List.length q.2.2.2.2.1,by simpa using congrArg List.length q.2.2.2.2.2.1,q.2.2.2.2.2.2⟩),Y⟩,Y⟩
termination_by SizeOf.sizeOf a
decreasing_by
 ·exact Ex.lt_kid hx
 ·exact Nat.lt_trans (Al.lt_e x) (Ex.lt_alt hx)
 exact Nat.lt_trans (Bi.lt_e x) (Ex.lt_bind hx)
theorem SameBinds_c (xs ys:List Bi):BCall Try.prog 42 [.seq 13 (Bi.cellss xs),.seq 13 (Bi.cellss ys)] (xs.map Bi.bare=ys.map Bi.bare):=SameBinds_of xs ys (fun x _ y=>rSame_c x.e y)
def Cn.key (x:Cn):=(x.s,x.ts)
def Da.key (x:Da):=(x.s,x.ps,x.cs.map Cn.key,x.dv)
def Me.key (x:Me):=(x.s,x.t)
def Cl.key (x:Cl):=(x.s,x.v,x.su,x.ms.map Me.key,x.ds.map Bi.bare)
def In.key (x:In):=(x.c,x.hd,x.cx,x.bs.map Bi.bare)
def Pg.key (x:Pg):=(x.da.map Da.key,x.cl.map Cl.key,x.ins.map In.key,x.bs.map Bi.bare)
end Go.Proofs.Ytefbicnoddggnaa
namespace Go.Proofs.Ytefbicnoddggnaa
open Go.RowKit
def SM (b:Nat) (out bd:List Txt) (M:Mem):Prop:=∃ uo ao cap,M=[.loc b [.own uo 1 (strs out),.val (.slice ao (strs bd).length cap)],.own 9 1 uo,.row 9 1 (.slice ao (strs bd).length cap) (strs bd)]
theorem SM.start (b:Nat):MImp [.loc b [.val (.slice none 0 0),.val (.slice none 0 0)]] [.loc b [.own (.slice none 0 0) 1 (strs []),.val (.slice none (strs []).length 0)],.own 9 1 (.slice none 0 0),.row 9 1 (.slice none (strs []).length 0) (strs [])]:=fun B F Mf w x=>by
 have h:=(MImp.rowNil 9 1 [.own 9 1 (.slice none 0 0),.loc b [.val (.slice none 0 0),.val (.slice none 0 0)]]) B F Mf w (x.ownNil 9 1)
 have h2:Inv B F (.row 9 1 (.slice none 0 0) []::.own 9 1 (.slice none 0 0)::.loc b [.own (.slice none 0 0) 1 [],.val (.slice none 0 0)]::Mf) w:=by
  refine ⟨h.base,h.fix,fun r hr=>?_,?_⟩
  ·simp only [List.mem_cons] at hr
   rcases hr with rfl|rfl|rfl|hr
   ·exact h.ok _ by17
   ·exact h.ok _ by17
   ·obtain ⟨h1,h2,vs,T,h3,h4,h5⟩:=h.ok (.loc b [.val (.slice none 0 0),.val (.slice none 0 0)]) by17
    refine ⟨h1,h2,vs,T,h3,?_,h5⟩
    cases h4 with
    | cons k ks =>
     cases k
     exact .cons (.own _ (.seq0 1 none 0 (fun _=>Y))) ks
   exact h.ok r (by simp [hr])
  have:=h.far
  rw [far_map] at this ⊢
  simpa [Res.blk] using this
 refine h2.perm ?_
 have e:=List.reverse_perm [Res.loc b [.own (.slice none 0 0) 1 [],.val (.slice none 0 0)],.own 9 1 (.slice none 0 0),.row 9 1 (.slice none 0 0) []]
 exact e.append_right Mf
theorem MLe.left:∀ A B:Mem,MLe (A++B) A
 | [],_=>Yr _
 | _::A,B=>Ys _ (MLe.left A B)
theorem Bi.room {x:Bi} {bs:List Bi} (h:x∈bs):x.e.w+bs.length≤Bi.ws bs:=by
 induction bs with
 | nil=>simp at h
 | cons y bs ih =>
  have h2:=Bi.len_ws bs
  rw [Bi.ws,List.length_cons]
  rcases List.mem_cons.1 h with rfl|h
  ·cases x;simp only [Bi.e,Bi.w];omega
  have:=ih h
  cases y;rw [Bi.w];omega
def Ex.kind:Ex→Int|.mk k _ _ _ _ _ _ _=>k
end Go.Proofs.Ytefbicnoddggnaa
namespace Go.Proofs.Ytefbicnoddggnaa
open Go.RowKit
theorem ACall.bal {P:Program} {f:FuncId} {vs:List AV} {p q:Prop} (h:BCall P f vs p) (e:p↔q):BCall P f vs q :=
 h.mono (by rintro v M' ⟨⟨c,hc,rfl⟩,rfl⟩;exact ⟨⟨c,hc.trans e,rfl⟩,rfl⟩)
theorem rParts_c (e:Ex) (hp:e.parts.length≤1000000000):OCall Try.prog 43 [.agg e.cells] 47 11 (Ex.cellss e.parts):=by
 obtain ⟨k,s,n,⟨tk,ts,tn,tks⟩,ks,al,bs,p⟩:=e
 rw [Ex.parts] at hp ⊢
 have hlk:=Ex.cellss_len ks
 have hlb:=Bi.cellss_len bs
 have hla:=Al.cellss_len al
 obtain ⟨H1,hH1⟩:∃ H1,H1=(if k=7 then [] else ks):=⟨_,rfl⟩
 obtain ⟨H2,hH2⟩:∃ H2,H2=(if k=7 then ks else []):=⟨_,rfl⟩
 rw [← hH1,← hH2] at hp ⊢
 simp only [List.length_append,List.length_map] at hp
 have hk:H1.length+H2.length=ks.length:=by rw [hH1,hH2];split <;> simp
 refine Zc Try.func43 Y (by kernel_rfl) Y (Xb Y) ?_
 refine Qan ?_
 refine c_lena (t:=0) (j:=8) Y Y (.seq _ _) (fun hmax1=>?_)
 refine c_lena (t:=0) (j:=9) Y Y (.seq _ _) (fun hmax2=>?_)
 refine Qn ?_
 refine QcF ?_
 refine Qd ?_
 refine QC ?_
 refine QK ?_
 refine ACode.ownNil (t:=3) 47 11 Y ?_
 refine Qj ?_
 refine Ql ?_
 refine Q5 ?_;intro c8 h8
 refine Qa ?_
 obtain ⟨rfl,g8⟩|⟨rfl,g8⟩:=Za h8
 ·refine Qt ?_
  refine QM ?_
  refine c_loop (σ:=Nat × Value) (fun zz=>match zz with|(i,u)=>[(1,.cptr (Ex.mk k s n ⟨tk,ts,tn,tks⟩ ks al bs p).cells),(3,.own u 11 (Ex.cellss (H1++(bs.take i).map Bi.e))),(4,.val (.int .i64 i))]) (fun zz=>match zz with|(i,u)=>[.own 47 11 u]) (fun zz=>match zz with|(i,u)=>i≤bs.length) (fun zz=>match zz with|(i,u)=>bs.length - i) ((0,.slice none 0 0)) ?_ ?_ ?_ ?_
  ·simp
  ·exact (by repeat' (first|exact SLe.nil _|refine Yy Y ?_ ?_|exact Yv _|exact Le.own _ _ _|exact Le.nil _|(refine Xa ?_;first|(rw [hH1,if_neg by16];simp;done)|(rw [hH1,if_pos by16];rfl))|(refine Le.own_seq ?_;first|(rw [hH1,if_neg by16];simp;done)|(rw [hH1,if_pos by16];rfl))|(refine Le.seq_eq ?_;first|(rw [hH1,if_neg by16];simp;done)|(rw [hH1,if_pos by16];rfl))))
  ·exact by5
  rintro ⟨i,u⟩ hI
  try dsimp only [List.cons_append,List.nil_append] at hI ⊢
  refine Q6 ?_
  refine QcE ?_;intro n16
  refine Qm ?_;intro c17 h17
  refine Qa ?_
  obtain ⟨rfl,g17⟩|⟨rfl,g17⟩:=Za h17
  ·refine QbS ?_
   rw [List.take_of_length_le by16]
   have el:(Ex.cellss (H1++bs.map Bi.e)).length=H1.length+bs.length:=by
    rw [Ex.cellss_len];simp
   refine Qj ?_
   refine Ql ?_
   refine Qi ?_;intro c31 h31
   refine Qa ?_
   obtain ⟨rfl,g31⟩|⟨rfl,g31⟩:=Za h31
   ·refine Qt ?_
    refine QM ?_
    refine c_loop (σ:=Nat × Value) (fun zz=>match zz with|(j,v)=>[(1,.cptr (Ex.mk k s n ⟨tk,ts,tn,tks⟩ ks al bs p).cells),(3,.own v 11 (Ex.cellss (H1++bs.map Bi.e++H2++(al.take j).map Al.e))),(5,.val (.int .i64 j))]) (fun zz=>match zz with|(j,v)=>[.own 47 11 v]) (fun zz=>match zz with|(j,v)=>j≤al.length) (fun zz=>match zz with|(j,v)=>al.length - j) ((0,u)) ?_ ?_ ?_ ?_
    ·simp
    ·exact (by repeat' (first|exact SLe.nil _|refine Yy Y ?_ ?_|exact Yv _|exact Le.own _ _ _|exact Le.nil _|(refine Xa ?_;first|omega|(rw [hH2,if_pos by16];simp [Ex.cellss_map];done)|(rw [hH2,if_neg by16];simp;done))|(refine Le.own_seq ?_;first|omega|(rw [hH2,if_pos by16];simp [Ex.cellss_map];done)|(rw [hH2,if_neg by16];simp;done))|(refine Le.seq_eq ?_;first|omega|(rw [hH2,if_pos by16];simp [Ex.cellss_map];done)|(rw [hH2,if_neg by16];simp;done))))
    ·exact by5
    rintro ⟨j,v⟩ hI
    try dsimp only [List.cons_append,List.nil_append] at hI ⊢
    refine Q6 ?_
    refine Qcq ?_;intro n39
    refine Qm ?_;intro c40 h40
    refine Qa ?_
    obtain ⟨rfl,g40⟩|⟨rfl,g40⟩:=Za h40
    ·refine Qar ?_
     refine Qs ?_
     refine Qu ?_
     refine Zg Y Y (Xa ?_) by5 ⟨_,Y,Y⟩
     rw [List.take_of_length_le by16]
    refine Qaf ?_
    obtain ⟨⟨⟨qk,qs,qn,qks,qp⟩,⟨yk,yt,yn,⟨ytk,yts,ytn,ytks⟩,yks,yal,ybs,yp⟩⟩,hx⟩:=Zn (l:=al) (i:=j) by16
    have hcx:=Al.cellss_get hx
    have e:Ex.cellss (H1++bs.map Bi.e++H2++(al.take j).map Al.e)++[Ex.cells ⟨yk,yt,yn,⟨ytk,yts,ytn,ytks⟩,yks,yal,ybs,yp⟩]=Ex.cellss (H1++bs.map Bi.e++H2++(al.take (j+1)).map Al.e):=by
     rw [List.take_add_one,hx];simp [Ex.cellss_map,Al.e]
    have el2:(Ex.cellss (H1++bs.map Bi.e++H2++(al.take j).map Al.e)).length≤H1.length+bs.length+H2.length+al.length:=by
     rw [Ex.cellss_len];simp;omega
    refine Qg ?_
    refine Qaa ?_
    refine Qdd ?_
    refine QaS ?_
    refine Qa5 ?_
    refine Qde ?_
    refine QcI ?_
    intro u51
    refine Qam ?_
    exact ⟨(j+1,u51),by simp;omega,by simp;omega,(by repeat' (first|exact SLe.nil _|refine Yy Y ?_ ?_|exact Yv _|exact Le.own _ _ _|exact Le.nil _|(refine Xa ?_;exact e)|(refine Le.own_seq ?_;exact e)|(refine Le.seq_eq ?_;exact e))),by5⟩
   refine QaM ?_
   refine Ql ?_
   refine QdY ?_
   intro u35
   refine Qau ?_
   refine QM ?_
   refine c_loop (σ:=Nat × Value) (fun zz=>match zz with|(j,v)=>[(1,.cptr (Ex.mk k s n ⟨tk,ts,tn,tks⟩ ks al bs p).cells),(3,.own v 11 (Ex.cellss (H1++bs.map Bi.e++H2++(al.take j).map Al.e))),(5,.val (.int .i64 j))]) (fun zz=>match zz with|(j,v)=>[.own 47 11 v]) (fun zz=>match zz with|(j,v)=>j≤al.length) (fun zz=>match zz with|(j,v)=>al.length - j) ((0,u35)) ?_ ?_ ?_ ?_
   ·simp
   ·exact (by repeat' (first|exact SLe.nil _|refine Yy Y ?_ ?_|exact Yv _|exact Le.own _ _ _|exact Le.nil _|(refine Xa ?_;first|omega|(rw [hH2,if_pos by16];simp [Ex.cellss_map];done)|(rw [hH2,if_neg by16];simp;done))|(refine Le.own_seq ?_;first|omega|(rw [hH2,if_pos by16];simp [Ex.cellss_map];done)|(rw [hH2,if_neg by16];simp;done))|(refine Le.seq_eq ?_;first|omega|(rw [hH2,if_pos by16];simp [Ex.cellss_map];done)|(rw [hH2,if_neg by16];simp;done))))
   ·exact by5
   rintro ⟨j,v⟩ hI
   try dsimp only [List.cons_append,List.nil_append] at hI ⊢
   refine Q6 ?_
   refine Qcq ?_;intro n39
   refine Qm ?_;intro c40 h40
   refine Qa ?_
   obtain ⟨rfl,g40⟩|⟨rfl,g40⟩:=Za h40
   ·refine Qar ?_
    refine Qs ?_
    refine Qu ?_
    refine Zg Y Y (Xa ?_) by5 ⟨_,Y,Y⟩
    rw [List.take_of_length_le by16]
   refine Qaf ?_
   obtain ⟨⟨⟨qk,qs,qn,qks,qp⟩,⟨yk,yt,yn,⟨ytk,yts,ytn,ytks⟩,yks,yal,ybs,yp⟩⟩,hx⟩:=Zn (l:=al) (i:=j) by16
   have hcx:=Al.cellss_get hx
   have e:Ex.cellss (H1++bs.map Bi.e++H2++(al.take j).map Al.e)++[Ex.cells ⟨yk,yt,yn,⟨ytk,yts,ytn,ytks⟩,yks,yal,ybs,yp⟩]=Ex.cellss (H1++bs.map Bi.e++H2++(al.take (j+1)).map Al.e):=by
    rw [List.take_add_one,hx];simp [Ex.cellss_map,Al.e]
   have el2:(Ex.cellss (H1++bs.map Bi.e++H2++(al.take j).map Al.e)).length≤H1.length+bs.length+H2.length+al.length:=by
    rw [Ex.cellss_len];simp;omega
   refine Qg ?_
   refine Qaa ?_
   refine Qdd ?_
   refine QaS ?_
   refine Qa5 ?_
   refine Qde ?_
   refine QcI ?_
   intro u51
   refine Qam ?_
   exact ⟨(j+1,u51),by simp;omega,by simp;omega,(by repeat' (first|exact SLe.nil _|refine Yy Y ?_ ?_|exact Yv _|exact Le.own _ _ _|exact Le.nil _|(refine Xa ?_;exact e)|(refine Le.own_seq ?_;exact e)|(refine Le.seq_eq ?_;exact e))),by5⟩
  refine Qaf ?_
  obtain ⟨⟨ys,⟨yk,yt,yn,⟨ytk,yts,ytn,ytks⟩,yks,yal,ybs,yp⟩,yq⟩,hx⟩:=Zn (l:=bs) (i:=i) by16
  have hcx:=Bi.cellss_get hx
  have e:Ex.cellss (H1++(bs.take i).map Bi.e)++[Ex.cells ⟨yk,yt,yn,⟨ytk,yts,ytn,ytks⟩,yks,yal,ybs,yp⟩]=Ex.cellss (H1++(bs.take (i+1)).map Bi.e):=by
   rw [List.take_add_one,hx];simp [Ex.cellss_map,Bi.e]
  have el:(Ex.cellss (H1++(bs.take i).map Bi.e)).length≤H1.length+bs.length:=by
   rw [Ex.cellss_len];simp;omega
  refine Qg ?_
  refine Qaa ?_
  refine QdZ ?_
  refine QaS ?_
  refine Qa5 ?_
  refine Qd0 ?_
  refine QcI ?_
  intro u28
  refine Qam ?_
  exact ⟨(i+1,u28),by simp;omega,by simp;omega,(by repeat' (first|exact SLe.nil _|refine Yy Y ?_ ?_|exact Yv _|exact Le.own _ _ _|exact Le.nil _|(refine Xa ?_;exact e)|(refine Le.own_seq ?_;exact e)|(refine Le.seq_eq ?_;exact e))),by5⟩
 refine QaM ?_
 refine Ql ?_
 refine Zb 12 Y Y Y (Zu (i:=0) Yp Y Y Y Y (.seq _ _) (by simp only [List.length_nil];omega) ?_)
 intro u12
 refine Qau ?_
 refine QM ?_
 refine c_loop (σ:=Nat × Value) (fun zz=>match zz with|(i,u)=>[(1,.cptr (Ex.mk k s n ⟨tk,ts,tn,tks⟩ ks al bs p).cells),(3,.own u 11 (Ex.cellss (H1++(bs.take i).map Bi.e))),(4,.val (.int .i64 i))]) (fun zz=>match zz with|(i,u)=>[.own 47 11 u]) (fun zz=>match zz with|(i,u)=>i≤bs.length) (fun zz=>match zz with|(i,u)=>bs.length - i) ((0,u12)) ?_ ?_ ?_ ?_
 ·simp
 ·exact (by repeat' (first|exact SLe.nil _|refine Yy Y ?_ ?_|exact Yv _|exact Le.own _ _ _|exact Le.nil _|(refine Xa ?_;first|(rw [hH1,if_neg by16];simp;done)|(rw [hH1,if_pos by16];rfl))|(refine Le.own_seq ?_;first|(rw [hH1,if_neg by16];simp;done)|(rw [hH1,if_pos by16];rfl))|(refine Le.seq_eq ?_;first|(rw [hH1,if_neg by16];simp;done)|(rw [hH1,if_pos by16];rfl))))
 ·exact by5
 rintro ⟨i,u⟩ hI
 try dsimp only [List.cons_append,List.nil_append] at hI ⊢
 refine Q6 ?_
 refine QcE ?_;intro n16
 refine Qm ?_;intro c17 h17
 refine Qa ?_
 obtain ⟨rfl,g17⟩|⟨rfl,g17⟩:=Za h17
 ·refine QbS ?_
  rw [List.take_of_length_le by16]
  have el:(Ex.cellss (H1++bs.map Bi.e)).length=H1.length+bs.length:=by
   rw [Ex.cellss_len];simp
  refine Qj ?_
  refine Ql ?_
  refine Qi ?_;intro c31 h31
  refine Qa ?_
  obtain ⟨rfl,g31⟩|⟨rfl,g31⟩:=Za h31
  ·refine Qt ?_
   refine QM ?_
   refine c_loop (σ:=Nat × Value) (fun zz=>match zz with|(j,v)=>[(1,.cptr (Ex.mk k s n ⟨tk,ts,tn,tks⟩ ks al bs p).cells),(3,.own v 11 (Ex.cellss (H1++bs.map Bi.e++H2++(al.take j).map Al.e))),(5,.val (.int .i64 j))]) (fun zz=>match zz with|(j,v)=>[.own 47 11 v]) (fun zz=>match zz with|(j,v)=>j≤al.length) (fun zz=>match zz with|(j,v)=>al.length - j) ((0,u)) ?_ ?_ ?_ ?_
   ·simp
   ·exact (by repeat' (first|exact SLe.nil _|refine Yy Y ?_ ?_|exact Yv _|exact Le.own _ _ _|exact Le.nil _|(refine Xa ?_;first|omega|(rw [hH2,if_pos by16];simp [Ex.cellss_map];done)|(rw [hH2,if_neg by16];simp;done))|(refine Le.own_seq ?_;first|omega|(rw [hH2,if_pos by16];simp [Ex.cellss_map];done)|(rw [hH2,if_neg by16];simp;done))|(refine Le.seq_eq ?_;first|omega|(rw [hH2,if_pos by16];simp [Ex.cellss_map];done)|(rw [hH2,if_neg by16];simp;done))))
   ·exact by5
   rintro ⟨j,v⟩ hI
   try dsimp only [List.cons_append,List.nil_append] at hI ⊢
   refine Q6 ?_
   refine Qcq ?_;intro n39
   refine Qm ?_;intro c40 h40
   refine Qa ?_
   obtain ⟨rfl,g40⟩|⟨rfl,g40⟩:=Za h40
   ·refine Qar ?_
    refine Qs ?_
    refine Qu ?_
    refine Zg Y Y (Xa ?_) by5 ⟨_,Y,Y⟩
    rw [List.take_of_length_le by16]
   refine Qaf ?_
   obtain ⟨⟨⟨qk,qs,qn,qks,qp⟩,⟨yk,yt,yn,⟨ytk,yts,ytn,ytks⟩,yks,yal,ybs,yp⟩⟩,hx⟩:=Zn (l:=al) (i:=j) by16
   have hcx:=Al.cellss_get hx
   have e:Ex.cellss (H1++bs.map Bi.e++H2++(al.take j).map Al.e)++[Ex.cells ⟨yk,yt,yn,⟨ytk,yts,ytn,ytks⟩,yks,yal,ybs,yp⟩]=Ex.cellss (H1++bs.map Bi.e++H2++(al.take (j+1)).map Al.e):=by
    rw [List.take_add_one,hx];simp [Ex.cellss_map,Al.e]
   have el2:(Ex.cellss (H1++bs.map Bi.e++H2++(al.take j).map Al.e)).length≤H1.length+bs.length+H2.length+al.length:=by
    rw [Ex.cellss_len];simp;omega
   refine Qg ?_
   refine Qaa ?_
   refine Qdd ?_
   refine QaS ?_
   refine Qa5 ?_
   refine Qde ?_
   refine QcI ?_
   intro u51
   refine Qam ?_
   exact ⟨(j+1,u51),by simp;omega,by simp;omega,(by repeat' (first|exact SLe.nil _|refine Yy Y ?_ ?_|exact Yv _|exact Le.own _ _ _|exact Le.nil _|(refine Xa ?_;exact e)|(refine Le.own_seq ?_;exact e)|(refine Le.seq_eq ?_;exact e))),by5⟩
  refine QaM ?_
  refine Ql ?_
  refine QdY ?_
  intro u35
  refine Qau ?_
  refine QM ?_
  refine c_loop (σ:=Nat × Value) (fun zz=>match zz with|(j,v)=>[(1,.cptr (Ex.mk k s n ⟨tk,ts,tn,tks⟩ ks al bs p).cells),(3,.own v 11 (Ex.cellss (H1++bs.map Bi.e++H2++(al.take j).map Al.e))),(5,.val (.int .i64 j))]) (fun zz=>match zz with|(j,v)=>[.own 47 11 v]) (fun zz=>match zz with|(j,v)=>j≤al.length) (fun zz=>match zz with|(j,v)=>al.length - j) ((0,u35)) ?_ ?_ ?_ ?_
  ·simp
  ·exact (by repeat' (first|exact SLe.nil _|refine Yy Y ?_ ?_|exact Yv _|exact Le.own _ _ _|exact Le.nil _|(refine Xa ?_;first|omega|(rw [hH2,if_pos by16];simp [Ex.cellss_map];done)|(rw [hH2,if_neg by16];simp;done))|(refine Le.own_seq ?_;first|omega|(rw [hH2,if_pos by16];simp [Ex.cellss_map];done)|(rw [hH2,if_neg by16];simp;done))|(refine Le.seq_eq ?_;first|omega|(rw [hH2,if_pos by16];simp [Ex.cellss_map];done)|(rw [hH2,if_neg by16];simp;done))))
  ·exact by5
  rintro ⟨j,v⟩ hI
  try dsimp only [List.cons_append,List.nil_append] at hI ⊢
  refine Q6 ?_
  refine Qcq ?_;intro n39
  refine Qm ?_;intro c40 h40
  refine Qa ?_
  obtain ⟨rfl,g40⟩|⟨rfl,g40⟩:=Za h40
  ·refine Qar ?_
   refine Qs ?_
   refine Qu ?_
   refine Zg Y Y (Xa ?_) by5 ⟨_,Y,Y⟩
   rw [List.take_of_length_le by16]
  refine Qaf ?_
  obtain ⟨⟨⟨qk,qs,qn,qks,qp⟩,⟨yk,yt,yn,⟨ytk,yts,ytn,ytks⟩,yks,yal,ybs,yp⟩⟩,hx⟩:=Zn (l:=al) (i:=j) by16
  have hcx:=Al.cellss_get hx
  have e:Ex.cellss (H1++bs.map Bi.e++H2++(al.take j).map Al.e)++[Ex.cells ⟨yk,yt,yn,⟨ytk,yts,ytn,ytks⟩,yks,yal,ybs,yp⟩]=Ex.cellss (H1++bs.map Bi.e++H2++(al.take (j+1)).map Al.e):=by
   rw [List.take_add_one,hx];simp [Ex.cellss_map,Al.e]
  have el2:(Ex.cellss (H1++bs.map Bi.e++H2++(al.take j).map Al.e)).length≤H1.length+bs.length+H2.length+al.length:=by
   rw [Ex.cellss_len];simp;omega
  refine Qg ?_
  refine Qaa ?_
  refine Qdd ?_
  refine QaS ?_
  refine Qa5 ?_
  refine Qde ?_
  refine QcI ?_
  intro u51
  refine Qam ?_
  exact ⟨(j+1,u51),by simp;omega,by simp;omega,(by repeat' (first|exact SLe.nil _|refine Yy Y ?_ ?_|exact Yv _|exact Le.own _ _ _|exact Le.nil _|(refine Xa ?_;exact e)|(refine Le.own_seq ?_;exact e)|(refine Le.seq_eq ?_;exact e))),by5⟩
 refine Qaf ?_
 obtain ⟨⟨ys,⟨yk,yt,yn,⟨ytk,yts,ytn,ytks⟩,yks,yal,ybs,yp⟩,yq⟩,hx⟩:=Zn (l:=bs) (i:=i) by16
 have hcx:=Bi.cellss_get hx
 have e:Ex.cellss (H1++(bs.take i).map Bi.e)++[Ex.cells ⟨yk,yt,yn,⟨ytk,yts,ytn,ytks⟩,yks,yal,ybs,yp⟩]=Ex.cellss (H1++(bs.take (i+1)).map Bi.e):=by
  rw [List.take_add_one,hx];simp [Ex.cellss_map,Bi.e]
 have el:(Ex.cellss (H1++(bs.take i).map Bi.e)).length≤H1.length+bs.length:=by
  rw [Ex.cellss_len];simp;omega
 refine Qg ?_
 refine Qaa ?_
 refine QdZ ?_
 refine QaS ?_
 refine Qa5 ?_
 refine Qd0 ?_
 refine QcI ?_
 intro u28
 refine Qam ?_
 exact ⟨(i+1,u28),by simp;omega,by simp;omega,(by repeat' (first|exact SLe.nil _|refine Yy Y ?_ ?_|exact Yv _|exact Le.own _ _ _|exact Le.nil _|(refine Xa ?_;exact e)|(refine Le.own_seq ?_;exact e)|(refine Le.seq_eq ?_;exact e))),by5⟩
theorem Le.of_eq {a b:AV} (h:a=b):Le a b:=h ▸ Yv _
end Go.Proofs.Ytefbicnoddggnaa
namespace Go.Proofs.Ytefbicnoddggnaa
open Go.RowKit
theorem rSameInst_c (a b:In):BCall Try.prog 18 [.agg a.cells,.agg b.cells] (a.key=b.key):=by
 obtain ⟨s1,⟨k1,t1,n1,l1⟩,cx1,bs1,p1⟩:=a
 obtain ⟨s2,⟨k2,t2,n2,l2⟩,cx2,bs2,p2⟩:=b
 have hk:((In.mk s1 ⟨k1,t1,n1,l1⟩ cx1 bs1 p1).key=(In.mk s2 ⟨k2,t2,n2,l2⟩ cx2 bs2 p2).key)=(s1=s2∧(⟨k1,t1,n1,l1⟩:Ty)=⟨k2,t2,n2,l2⟩∧cx1=cx2∧bs1.map Bi.bare=bs2.map Bi.bare):=by simp only [In.key,In.c,In.hd,In.cx,In.bs,Prod.mk.injEq]
 have hl1:=Pr.cellss_len cx1
 have hl2:=Pr.cellss_len cx2
 rw [hk]
 generalize hT:((⟨k1,t1,n1,l1⟩:Ty)=⟨k2,t2,n2,l2⟩)=T
 have HT:=SameType_c ⟨k1,t1,n1,l1⟩ ⟨k2,t2,n2,l2⟩
 rw [hT] at HT
 refine Zc Try.func18 Y (by kernel_rfl) Y (Xb Y) ?_
 refine Qan ?_
 refine c_lena (t:=0) (j:=5) Y Y (.seq _ _) (fun hmax=>?_)
 refine Qn ?_
 refine Qdf ?_
 refine Qdf ?_
 refine Qbx ?_
 refine Zt 27 (¬ (s1=s2∧T∧cx1.length=cx2.length)) ?_ _ _ Y ?_
 ·skip
  refine Ql ?_
  refine Ql ?_
  refine QcJ ?_;intro c10 h10
  refine Qb ?_
  obtain ⟨rfl,g10⟩|⟨rfl,g10⟩:=Za h10
  ·skip
   refine QcB ?_
   refine Qda ?_
   refine QcB ?_
   refine Qda ?_
   refine Zk 16 Y Y Y Y Y (Zj (xs:=[.tmp 13,.tmp 15]) Y Y (HT) by3 ?_);intro c16 h16
   refine QcG ?_;intro c17 h17
   try replace h17:=nott h17 h16
   refine Qp ?_
   obtain ⟨rfl,g17⟩|⟨rfl,g17⟩:=Za h17
   ·skip
    refine Qw ?_
    refine Zk 22 Y Y Y Y Y (op_len Y tu_31 Y (.seq _ _) (fun n22=>?_))
    refine Qw ?_
    refine Zk 25 Y Y Y Y Y (op_len Y tu_31 Y (.seq _ _) (fun n25=>?_))
    refine Qbe ?_;intro c26 h26
    refine Qf ?_
    refine Yz Y ?_ by7 by5
    simp_all;omega
   skip
   refine Qh ?_
   refine Qad ?_
   refine Qf ?_
   refine Yz Y ?_ by7 by5
   simp_all;done
  skip
  refine Qh ?_
  refine QZ ?_
  refine Qa9 ?_
  refine Qf ?_
  refine Yz Y ?_ by7 by5
  simp_all;done
 intro c27 h27
 refine Qe ?_
 obtain ⟨rfl,g27⟩|⟨rfl,g27⟩:=Za h27
 ·refine QF ?_
  refine QK ?_
  obtain ⟨e1,e2,e4⟩:=Classical.not_not.1 g27
  refine Qj ?_
  refine Qbj ?_
  apply Zw (rg [(0,2),(4,60)]) (σ:=Nat) (fun zz=>match zz with|i=>[(5,.val (.int .i64 i))]) (fun zz=>match zz with|i=>i≤cx1.length∧Upto cx1 cx2 i) (fun zz=>match zz with|i=>cx1.length - i) (0)
  ·repeat' (first|exact Xe|apply Xc rfl|apply Xd rfl)
  ·exact ⟨by omega,Upto.zero _ _⟩
  ·exact by6
  rintro i hI
  try dsimp only [List.cons_append,List.nil_append] at hI ⊢
  obtain ⟨hi,hu⟩:=hI
  refine Q6 ?_
  refine Zb 31 Y Y Y (op_len Y tu_31 Y (.seq _ _) (fun n31=>?_))
  refine Qm ?_;intro c32 h32
  refine Qa ?_
  obtain ⟨rfl,g32⟩|⟨rfl,g32⟩:=Za h32
  ·refine QN ?_
   have hme:=hu.eq by16 by16
   refine Qj ?_
   refine Ql ?_
   refine Ql ?_
   refine Zb 68 Y Y Y (Zj (xs:=[.tmp 65,.tmp 67]) Y Y (SameBinds_c bs1 bs2) by3 ?_);intro c68 h68
   refine Qu ?_
   exact Zg Y Y (Yv _) by5 ⟨⟨_,h68.trans ⟨fun q=>⟨e1,e2,hme,q⟩,fun q=>q.2.2.2⟩,Y⟩,Y⟩
  refine QI ?_
  obtain ⟨⟨xc,⟨xtk,xts,xtn,xtl⟩⟩,hxx⟩:=Zn (l:=cx1) (i:=i) by9
  have hcx:=Pr.cellss_get hxx
  have hmx:=Xf hxx
  obtain ⟨⟨yc,⟨ytk,yts,ytn,ytl⟩⟩,hxy⟩:=Zn (l:=cx2) (i:=i) by9
  have hcy:=Pr.cellss_get hxy
  have hmy:=Xf hxy
  refine c_boold 63 (¬ (xc=yc∧(⟨xtk,xts,xtn,xtl⟩:Ty)=⟨ytk,yts,ytn,ytl⟩)) tmix Y ?_ _ _ Y ?_
  ·skip
   refine QaX ?_
   refine Qd1 ?_
   refine QbI ?_
   refine Qcm ?_
   refine QaX ?_
   refine Qd1 ?_
   refine QbI ?_
   refine Qcm ?_
   refine DOps.cm 47 Y Y (fun _ q=>op_sneq Y Y Y q) ?_;intro c47 h47
   refine Qap ?_
   obtain ⟨rfl,g47⟩|⟨rfl,g47⟩:=Za h47
   ·skip
    refine QaT ?_
    refine QcH ?_
    refine Qbf ?_
    refine Qd2 ?_
    refine QaT ?_
    refine Qd3 ?_
    refine QaT ?_
    refine QcH ?_
    refine Qbf ?_
    refine Qd2 ?_
    refine QaT ?_
    refine Qd3 ?_
    refine DOps.gtc 61 Y Y Y Y (fun _ q=>Zj (xs:=[.tmp 54,.tmp 60]) Y Y (SameType_c ⟨xtk,xts,xtn,xtl⟩ ⟨ytk,yts,ytn,ytl⟩) by3 q) ?_;intro c61 h61
    refine DOps.gtc 62 Y Y Y Y (fun _ q=>op_notc Y Y q) ?_;intro c62 h62
    try replace h62:=nott h62 h61
    refine Qbn ?_
    show BoolQ _ _ _ _ _ _
    refine Yz Y ?_ by7 by5
    simp_all;done
   skip
   refine QaY ?_
   refine QaY ?_
   refine QaY ?_
   refine Qa4 ?_
   refine Qa4 ?_
   refine Qbn ?_
   show BoolQ _ _ _ _ _ _
   refine Yz Y ?_ by7 by5
   simp_all;done
  intro c63 h63
  refine Qe ?_
  obtain ⟨rfl,g63⟩|⟨rfl,g63⟩:=Za h63
  ·refine Qaz ?_
   exact ⟨i+1,⟨by omega,hu.succ hxx hxy (by simpa using Classical.not_not.1 g63)⟩,by simp;omega,by6,by5⟩
  refine QD ?_
  exact Zg rfl rfl (Yv _) by5 ⟨⟨_,iff_f (fun e=>g63 (by have:=e.2.2.1;subst this;rw [hxx] at hxy;simpa using Option.some.inj hxy)),rfl⟩,rfl⟩
 refine QD ?_
 exact Zg rfl rfl (Yv _) by5 ⟨⟨_,iff_f (fun ⟨e1,e2,e3,_⟩=>g27 ⟨e1,e2,by rw [e3]⟩),rfl⟩,rfl⟩
section
variable {P:Program} {n:Nat} {al:Sl} {M:Mem} {o:Oper} {K:AV→Mem→Prop}
def bts (xs:List Int):List (List AV):=xs.map fun b=>[.val (.int .u8 b)]
theorem bts_flat (xs:List Int):(bts xs).flatten=xs.map fun b=>AV.val (.int .u8 b):=by
 induction xs with
 | nil=>rfl
 | cons x xs ih=>unfold bts at *;rw [List.map_cons,List.flatten_cons,ih];rfl
theorem rels_vals {F:EH}:∀ {vs us:List Value},Rels F (vs.map AV.val) us→us=vs
 | [],us,h=>by cases h;rfl
 | v::vs,us,h=>by
  cases h with
  | cons h hs=>cases h;rw [rels_vals hs]
theorem op_bytestr {x:Operand} {t t' e:TypeId} {v:AV} {xs:List Int} (ho:o.op=.convert t t' x) (ht:P.underlying t=some (.slice e)) (he:P.underlying e=some (.int .u8)) (ht':P.underlying t'=some .string) (hx:al.ev x=some v) (hv:IsSeq v 1 (bts xs)) (h0:xs≠[]) (q:K (.val (.string (strOfNums xs))) M):OpT P o al M K :=
 OpT.plain fun n B F Mf ac w hi hs=>by
  have h:=hv.rel (hs.ev hx)
  generalize hu:ac.eval x=u at h
  generalize hes:bts xs=es at h
  cases h with
  | seq0 _ ao cap _=>exact absurd (by simpa [bts] using hes) h0
  | seq b off cap hm hn hl h h1 hcq =>
   subst hes
   rw [bts_flat,show (xs.map fun b=>AV.val (.int .u8 b))=(xs.map (Value.int .u8)).map AV.val from by simp] at h
   have:=rels_vals h
   subst this
   have hlen:(bts xs).length=xs.length:=by simp [bts]
   refine ⟨_,_,?_,q,.val _⟩
   have:=run_convert_bytes_arg (P:=P) w t e ht he b off xs.length cap xs rfl (fun i hi'=>hi.fix _ _ _ (hl i _ (by simp [hi']))) t' ht'
   simp [execOp,ho,hu,hlen,this]
end
section
variable {P:Program} {al:Sl} {M:Mem} {K:AV→Mem→Prop} {o:Oper}
theorem op_bytestr0 {x:Operand} {t t' e:TypeId} {v:AV} (ho:o.op=.convert t t' x) (ht:P.underlying t=some (.slice e)) (he:P.underlying e=some (.int .u8)) (ht':P.underlying t'=some .string) (hx:al.ev x=some v) (hv:IsSeq v 1 []) (q:K (.val (.string ⟨#[]⟩)) M):OpT P o al M K :=
 OpT.plain fun n B F Mf ac w hi hs=>by
  have h:=hv.rel (hs.ev hx)
  generalize hu:ac.eval x=u at h
  have key:∃ ao cap,u=.slice ao 0 cap:=by
   obtain ⟨ao,cap,h⟩:=h.seq_len
   exact ⟨ao,cap,h⟩
  obtain ⟨ao,cap,rfl⟩:=key
  refine ⟨_,_,?_,q,.val _⟩
  have hr:(convert t t' (.slice ao 0 cap)).run P w=.ok (.string ⟨#[]⟩) w:=by
   rw [run_convert_bytes_string w t t' e _ 0 cap ht he ht']
   cases ao <;> simp [Conv.bytesToString,loadCells,loadCellsFrom,ByteArray.empty,ByteArray.emptyWithCapacity] <;> rfl
  simp [execOp,ho,hu,hr]
theorem op_bytestra {x:Operand} {t t' e:TypeId} {v:AV} {xs:List Int} (ho:o.op=.convert t t' x) (ht:P.underlying t=some (.slice e)) (he:P.underlying e=some (.int .u8)) (ht':P.underlying t'=some .string) (hx:al.ev x=some v) (hv:IsSeq v 1 (bts xs)) (q:K (.val (.string (strOfNums xs))) M):OpT P o al M K:=by
 by_cases h0:xs=[]
 ·subst h0
  exact op_bytestr0 ho ht he ht' hx hv q
 exact op_bytestr ho ht he ht' hx hv h0 q
end
theorem Le.inteq {k:IntKind} {a b:Int} (h:a=b):Le (.val (.int k a)) (.val (.int k b)):=by rw [h];exact Yv _
theorem smallC_iff (c:Nat):smallC c=true↔((97≤c∧c≤122)∨c=95):=by simp [smallC]
theorem greatC_iff (c:Nat):greatC c=true↔(65≤c∧c≤90):=by simp [greatC]
theorem digitC_iff (c:Nat):digitC c=true↔(48≤c∧c≤57):=by simp [digitC]
theorem blankC_iff (c:Nat):blankC c=true↔(c=32∨c=9∨c=10∨c=13):=by simp [blankC,or_assoc]
theorem nameC_iff (c:Nat):nameC c=true↔(smallC c=true∨greatC c=true∨digitC c=true∨c=39):=by simp [nameC,or_assoc]
theorem small_c (c:Nat):BCall Try.prog 47 [.val (.int .u8 c)] (smallC c=true):=by
 refine Zc Try.func47 Y (by kernel_rfl) Y (Xb Y) ?_
 refine QaZ ?_
 refine Zt 2 ((97≤c∧c≤122)∨c=95) ?_ _ _ Y ?_
 ·skip
  refine QbT ?_;intro c4 h4
  refine Qb ?_
  obtain ⟨rfl,g4⟩|⟨rfl,g4⟩:=Za h4
  ·skip
   refine QaN ?_
   refine QW ?_;intro c11 h11
   refine Qz ?_
   refine Yz Y ?_ by7 by5
   simp_all;omega
  skip
  refine Qc ?_
  refine QcK ?_;intro c7 h7
  refine Qp ?_
  obtain ⟨rfl,g7⟩|⟨rfl,g7⟩:=Za h7
  ·skip
   refine QW ?_;intro c11 h11
   refine Qz ?_
   refine Yz Y ?_ by7 by5
   simp_all;omega
  skip
  refine Q4 ?_
  refine Yz Y ?_ by7 by5
  simp_all;omega
 intro c2 h2
 refine QV ?_
 exact Zg Y Y (Yv _) by5 ⟨⟨_,h2.trans (smallC_iff c).symm,Y⟩,Y⟩
theorem great_c (c:Nat):BCall Try.prog 45 [.val (.int .u8 c)] (greatC c=true):=by
 refine Zc Try.func45 Y (by kernel_rfl) Y (Xb Y) ?_
 refine QaZ ?_
 refine Zt 2 (65≤c∧c≤90) ?_ _ _ Y ?_
 ·skip
  refine QbT ?_;intro c4 h4
  refine Qb ?_
  obtain ⟨rfl,g4⟩|⟨rfl,g4⟩:=Za h4
  ·skip
   refine Q4 ?_
   refine Yz Y ?_ by7 by5
   simp_all;omega
  skip
  refine Qc ?_
  refine QcK ?_;intro c7 h7
  refine Qz ?_
  refine Yz Y ?_ by7 by5
  simp_all;omega
 intro c2 h2
 refine QV ?_
 exact Zg Y Y (Yv _) by5 ⟨⟨_,h2.trans (greatC_iff c).symm,Y⟩,Y⟩
theorem digit_c (c:Nat):BCall Try.prog 79 [.val (.int .u8 c)] (digitC c=true):=by
 refine Zc Try.func79 Y (by kernel_rfl) Y (Xb Y) ?_
 refine QaZ ?_
 refine Zt 2 (48≤c∧c≤57) ?_ _ _ Y ?_
 ·skip
  refine QbT ?_;intro c4 h4
  refine Qb ?_
  obtain ⟨rfl,g4⟩|⟨rfl,g4⟩:=Za h4
  ·skip
   refine Q4 ?_
   refine Yz Y ?_ by7 by5
   simp_all;omega
  skip
  refine Qc ?_
  refine QcK ?_;intro c7 h7
  refine Qz ?_
  refine Yz Y ?_ by7 by5
  simp_all;omega
 intro c2 h2
 refine QV ?_
 exact Zg Y Y (Yv _) by5 ⟨⟨_,h2.trans (digitC_iff c).symm,Y⟩,Y⟩
theorem blank_c (c:Nat):BCall Try.prog 83 [.val (.int .u8 c)] (blankC c=true):=by
 refine Zc Try.func83 Y (by kernel_rfl) Y (Xb Y) ?_
 refine QaZ ?_
 refine Zt 2 (c=32∨c=9∨c=10∨c=13) ?_ _ _ Y ?_
 ·skip
  refine QbU ?_;intro c4 h4
  refine Qb ?_
  obtain ⟨rfl,g4⟩|⟨rfl,g4⟩:=Za h4
  ·skip
   refine QW ?_;intro c7 h7
   refine Qp ?_
   obtain ⟨rfl,g7⟩|⟨rfl,g7⟩:=Za h7
   ·skip
    refine QW ?_;intro c11 h11
    refine Qp ?_
    obtain ⟨rfl,g11⟩|⟨rfl,g11⟩:=Za h11
    ·skip
     refine QW ?_;intro c15 h15
     refine Qz ?_
     refine Yz Y ?_ by7 by5
     simp_all;omega
    skip
    refine Q4 ?_
    refine Yz Y ?_ by7 by5
    simp_all;omega
   skip
   refine QaN ?_
   refine Q4 ?_
   refine Yz Y ?_ by7 by5
   simp_all;omega
  skip
  refine QaN ?_
  refine QaN ?_
  refine Q4 ?_
  refine Yz Y ?_ by7 by5
  simp_all;omega
 intro c2 h2
 refine QV ?_
 exact Zg Y Y (Yv _) by5 ⟨⟨_,h2.trans (blankC_iff c).symm,Y⟩,Y⟩
theorem in_c (s:ByteArray) (hs:s.size≤60000) (c:Nat):BCall Try.prog 93 [.val (.string s),.val (.int .u8 c)] (c∈bytesN s):=by
 refine Zc Try.func93 Y (by kernel_rfl) Y (Xb Y) ?_
 refine QaZ ?_
 refine QM ?_
 refine c_loop (σ:=Nat) (fun zz=>match zz with|i=>[(0,.val (.string s)),(1,.val (.int .u8 c)),(5,.val (.int .i64 i))]) (fun zz=>match zz with|i=>[]) (fun zz=>match zz with|i=>i≤s.size∧(c∈bytesN s↔c∈rst s i)) (fun zz=>match zz with|i=>s.size - i) (0) ?_ ?_ ?_ ?_
 ·exact ⟨Nat.zero_le _,Iff.rfl⟩
 ·exact by6
 ·exact by5
 rintro i hI
 try dsimp only [List.cons_append,List.nil_append] at hI ⊢
 obtain ⟨hi,hu⟩:=hI
 refine Qal ?_
 refine Qby ?_;intro c9 h9
 refine Qa ?_
 obtain ⟨rfl,g9⟩|⟨rfl,g9⟩:=Za h9
 ·refine Qbh ?_
  exact Zg Y Y (Yv _) by5 ⟨⟨_,iff_f (fun q=>by have:=hu.1 q;rw [rst_nil by16] at this;cases this),Y⟩,Y⟩
 refine QI ?_
 obtain ⟨b,hb,hr,hlt⟩:=Ym (s:=s) (i:=i) by16
 refine QJ ?_
 refine Qcr ?_
 refine QbU ?_;intro c16 h16
 refine Qa ?_
 obtain ⟨rfl,g16⟩|⟨rfl,g16⟩:=Za h16
 ·refine Qaz ?_
  exact ⟨i+1,⟨by omega,hu.trans (by rw [hr];simp;omega)⟩,by simp;omega,by6,by5⟩
 refine QD ?_
 exact Zg Y Y (Yv _) by5 ⟨⟨_,iff_t (hu.2 (by rw [hr];simp;omega)),Y⟩,Y⟩
theorem signBytes:bytesN ⟨#[33,36,37,38,42,43,46,47,60,61,62,63,64,94,124,126,58,45]⟩=signL:=by decide
theorem sign_c (c:Nat):BCall Try.prog 87 [.val (.int .u8 c)] (signC c=true):=by
 have H:=in_c ⟨#[33,36,37,38,42,43,46,47,60,61,62,63,64,94,124,126,58,45]⟩ by15 c
 rw [signBytes] at H
 have hC:c∈signL↔signC c=true:=by unfold signC;exact (List.contains_iff_mem).symm
 refine Zc Try.func87 Y (by kernel_rfl) Y (Xb Y) ?_
 refine Qat ?_
 refine Qs ?_
 refine Zb 4 Y Y Y (Zj (xs:=[.const (.string ⟨#[33,36,37,38,42,43,46,47,60,61,62,63,64,94,124,126,58,45]⟩),.tmp 3]) Y Y (H) by3 ?_);intro c4 h4
 refine Qu ?_
 exact Zg Y Y (Yv _) by5 ⟨⟨_,h4.trans hC,Y⟩,Y⟩
theorem name_c (c:Nat):BCall Try.prog 62 [.val (.int .u8 c)] (nameC c=true):=by
 have H1:=small_c c
 have H2:=great_c c
 have H3:=digit_c c
 have hN:=nameC_iff c
 refine Zc Try.func62 Y (by kernel_rfl) Y (Xb Y) ?_
 refine QaZ ?_
 refine Zt 2 (smallC c=true∨greatC c=true∨digitC c=true∨c=39) ?_ _ _ Y ?_
 ·skip
  refine Qb ?_
  refine Zb 4 Y Y Y (Zj (xs:=[.tmp 3]) Y Y (H1) by3 ?_);intro c4 h4
  refine Qb ?_
  obtain ⟨rfl,g4⟩|⟨rfl,g4⟩:=Za h4
  ·skip
   refine Qc ?_
   refine Zk 7 Y Y Y Y Y (Zj (xs:=[.tmp 6]) Y Y (H2) by3 ?_);intro c7 h7
   refine Qp ?_
   obtain ⟨rfl,g7⟩|⟨rfl,g7⟩:=Za h7
   ·skip
    refine Qc ?_
    refine Zk 11 Y Y Y Y Y (Zj (xs:=[.tmp 10]) Y Y (H3) by3 ?_);intro c11 h11
    refine Qp ?_
    obtain ⟨rfl,g11⟩|⟨rfl,g11⟩:=Za h11
    ·skip
     refine QW ?_;intro c15 h15
     refine Qz ?_
     refine Yz Y ?_ by7 by5
     simp_all;omega
    skip
    refine Q4 ?_
    refine Yz Y ?_ by7 by5
    simp_all;done
   skip
   refine QaN ?_
   refine Q4 ?_
   refine Yz Y ?_ by7 by5
   simp_all;done
  skip
  refine QaN ?_
  refine QaN ?_
  refine Q4 ?_
  refine Yz Y ?_ by7 by5
  simp_all;done
 intro c2 h2
 refine QV ?_
 exact Zg Y Y (Yv _) by5 ⟨⟨_,h2.trans hN.symm,Y⟩,Y⟩
theorem byteAt_ (s:ByteArray) (i:Nat):∃ b:UInt8,i<s.size→s[i]?=some b∧rst s i=b.toNat::rst s (i+1)∧b.toNat<256:=by
 by_cases q:i<s.size
 ·obtain ⟨b,h⟩:=Ym q
  exact ⟨b,fun _=>h⟩
 exact ⟨0,fun h=>absurd h q⟩
theorem kindC_iff (k c:Nat) (h1:1≤k) (h3:k≤3):kindC k c=true↔((k=1∧nameC c=true)∨(k=2∧digitC c=true)∨(k=3∧signC c=true)):=by
 unfold kindC
 by_cases q1:k=1
 ·subst q1;simp
 rw [if_neg q1]
 by_cases q2:k=2
 ·subst q2;simp
 rw [if_neg q2]
 have q3:k=3:=by omega
 subst q3;simp
theorem end_c (s:ByteArray) (hs:s.size≤60000) (at_ k:Nat) (ha:at_≤s.size) (k1:1≤k) (k3:k≤3):PCall Try.prog 85 [.val (.string s),.val (.int .i64 at_),.val (.int .i64 k)] (.val (.int .i64 ((at_+run k (rst s at_):Nat):Int))):=by
 have HN:=name_c
 have HD:=digit_c
 have HS:=sign_c
 refine Zc Try.func85 Y (by kernel_rfl) Y (Xb Y) ?_
 refine Qat ?_
 refine Qa7 ?_
 refine c_loop (σ:=Nat) (fun zz=>match zz with|i=>[(0,.val (.string s)),(1,.val (.int .i64 i)),(2,.val (.int .i64 k))]) (fun zz=>match zz with|i=>[]) (fun zz=>match zz with|i=>i≤s.size∧i+run k (rst s i)=at_+run k (rst s at_)) (fun zz=>match zz with|i=>s.size - i) (at_) ?_ ?_ ?_ ?_
 ·exact ⟨ha,Y⟩
 ·exact by6
 ·exact by5
 rintro i hI
 try dsimp only [List.cons_append,List.nil_append] at hI ⊢
 obtain ⟨hi,hu⟩:=hI
 refine QK ?_
 obtain ⟨b,hb⟩:=byteAt_ s i
 have hK:=kindC_iff k b.toNat k1 k3
 refine Zt 40 (i<s.size∧kindC k b.toNat=true) ?_ _ _ Y ?_
 ·skip
  refine QaF ?_
  refine Qby ?_;intro c10 h10
  refine Qb ?_
  obtain ⟨rfl,g10⟩|⟨rfl,g10⟩:=Za h10
  ·skip
   refine QbV ?_
   refine QZ ?_
   refine QaL ?_
   refine QaL ?_
   refine QZ ?_
   refine QaL ?_
   refine QaL ?_
   refine Q1 ?_
   refine Qf ?_
   refine Yz Y ?_ by7 by5
   clear HN HD HS hu hb;first|(simp_all;done)|grind
  skip
  refine QW ?_;intro c13 h13
  refine Qc ?_
  obtain ⟨rfl,g13⟩|⟨rfl,g13⟩:=Za h13
  ·skip
   refine Qh ?_
   refine QX ?_
   refine Qc ?_
   refine QW ?_;intro c22 h22
   refine Qc ?_
   obtain ⟨rfl,g22⟩|⟨rfl,g22⟩:=Za h22
   ·skip
    refine Qh ?_
    refine QX ?_
    refine QX ?_
    refine Qc ?_
    refine QW ?_;intro c32 h32
    refine Qc ?_
    obtain ⟨rfl,g32⟩|⟨rfl,g32⟩:=Za h32
    ·skip
     refine Qh ?_
     refine QaO ?_
     refine Yz Y ?_ by7 by5
     clear HN HD HS hu hb;first|(simp_all;done)|grind
    skip
    refine QbW ?_
    refine Zk 37 Y Y Y Y Y (Zj (xs:=[.tmp 36]) Y Y (HS _) by3 ?_);intro c37 h37
    refine QaO ?_
    refine Yz Y ?_ by7 by5
    clear HN HD HS hu hb;first|(simp_all;done)|grind
   skip
   refine QbW ?_
   refine Zk 27 Y Y Y Y Y (Zj (xs:=[.tmp 26]) Y Y (HD _) by3 ?_);intro c27 h27
   refine QX ?_
   refine QX ?_
   refine Qc ?_
   obtain ⟨rfl,g27⟩|⟨rfl,g27⟩:=Za h27
   ·skip
    refine QW ?_;intro c32 h32
    refine Qc ?_
    obtain ⟨rfl,g32⟩|⟨rfl,g32⟩:=Za h32
    ·skip
     refine Qh ?_
     refine QaO ?_
     refine Yz Y ?_ by7 by5
     clear HN HD HS hu hb;first|(simp_all;done)|grind
    skip
    refine QbW ?_
    refine Zk 37 Y Y Y Y Y (Zj (xs:=[.tmp 36]) Y Y (HS _) by3 ?_);intro c37 h37
    refine QaO ?_
    refine Yz Y ?_ by7 by5
    clear HN HD HS hu hb;first|(simp_all;done)|grind
   skip
   refine QbV ?_
   refine Qba ?_
   refine Qf ?_
   refine Yz Y ?_ by7 by5
   clear HN HD HS hu hb;first|(simp_all;done)|grind
  skip
  refine QbW ?_
  refine Zk 18 Y Y Y Y Y (Zj (xs:=[.tmp 17]) Y Y (HN _) by3 ?_);intro c18 h18
  refine QX ?_
  refine Qc ?_
  obtain ⟨rfl,g18⟩|⟨rfl,g18⟩:=Za h18
  ·skip
   refine QW ?_;intro c22 h22
   refine Qc ?_
   obtain ⟨rfl,g22⟩|⟨rfl,g22⟩:=Za h22
   ·skip
    refine Qh ?_
    refine QX ?_
    refine QX ?_
    refine Qc ?_
    refine QW ?_;intro c32 h32
    refine Qc ?_
    obtain ⟨rfl,g32⟩|⟨rfl,g32⟩:=Za h32
    ·skip
     refine Qh ?_
     refine QaO ?_
     refine Yz Y ?_ by7 by5
     clear HN HD HS hu hb;first|(simp_all;done)|grind
    skip
    refine QbW ?_
    refine Zk 37 Y Y Y Y Y (Zj (xs:=[.tmp 36]) Y Y (HS _) by3 ?_);intro c37 h37
    refine QaO ?_
    refine Yz Y ?_ by7 by5
    clear HN HD HS hu hb;first|(simp_all;done)|grind
   skip
   refine QbW ?_
   refine Zk 27 Y Y Y Y Y (Zj (xs:=[.tmp 26]) Y Y (HD _) by3 ?_);intro c27 h27
   refine QX ?_
   refine QX ?_
   refine Qc ?_
   obtain ⟨rfl,g27⟩|⟨rfl,g27⟩:=Za h27
   ·skip
    refine QW ?_;intro c32 h32
    refine Qc ?_
    obtain ⟨rfl,g32⟩|⟨rfl,g32⟩:=Za h32
    ·skip
     refine Qh ?_
     refine QaO ?_
     refine Yz Y ?_ by7 by5
     clear HN HD HS hu hb;first|(simp_all;done)|grind
    skip
    refine QbW ?_
    refine Zk 37 Y Y Y Y Y (Zj (xs:=[.tmp 36]) Y Y (HS _) by3 ?_);intro c37 h37
    refine QaO ?_
    refine Yz Y ?_ by7 by5
    clear HN HD HS hu hb;first|(simp_all;done)|grind
   skip
   refine QbV ?_
   refine Qba ?_
   refine Qf ?_
   refine Yz Y ?_ by7 by5
   clear HN HD HS hu hb;first|(simp_all;done)|grind
  skip
  refine QbV ?_
  refine Qba ?_
  refine Qc ?_
  refine QbV ?_
  refine Qba ?_
  refine Qf ?_
  refine Yz Y ?_ by7 by5
  clear HN HD HS hu hb;first|(simp_all;done)|grind
 intro c40 h40
 refine Qe ?_
 obtain ⟨rfl,g40⟩|⟨rfl,g40⟩:=Za h40
 ·refine Qar ?_
  refine Qs ?_
  refine Qu ?_
  refine Zg Y Y (Le.inteq ?_) by5 ⟨Y,Y⟩
  rw [← hu]
  by_cases q:i<s.size
  ·rw [(hb q).2.1,run,if_neg (fun h=>g40 ⟨q,h⟩)];simp
  rw [rst_nil by16];simp [run]
 refine QaG ?_
 refine Qbu ?_
 refine Qbb ?_
 refine ⟨i+1,⟨by omega,?_⟩,by simp;omega,by6,by5⟩
 rw [(hb g40.1).2.1,run,if_pos g40.2] at hu
 omega
theorem over_exit {s:ByteArray} {j:Nat} {d:UInt8} (hd:j<s.size→s[j]?=some d∧rst s j=d.toNat::rst s (j+1)∧d.toNat<256) (h:¬ (j<s.size∧d.toNat≠10)):ovr true (rst s j)=ovr false (rst s j):=by
 by_cases q:j<s.size
 ·have h2:d.toNat=10:=Classical.not_not.1 fun h3=>h ⟨q,h3⟩
  rw [(hd q).2.1,h2,ovr_10]
 rw [rst_nil by16,ovr_nil,ovr_nil]
theorem over_c (s:ByteArray) (hs:s.size≤60000) (at_:Nat) (ha:at_≤s.size):PCall Try.prog 69 [.val (.string s),.val (.int .i64 at_)] (.val (.int .i64 ((at_+ovr false (rst s at_):Nat):Int))):=by
 have HB:=blank_c
 refine Zc Try.func69 Y (by kernel_rfl) Y (Xb Y) ?_
 refine Qat ?_
 refine Qa7 ?_
 refine c_loop (σ:=Nat) (fun zz=>match zz with|i=>[(0,.val (.string s)),(1,.val (.int .i64 i))]) (fun zz=>match zz with|i=>[]) (fun zz=>match zz with|i=>i≤s.size∧i+ovr false (rst s i)=at_+ovr false (rst s at_)) (fun zz=>match zz with|i=>s.size - i) (at_) ?_ ?_ ?_ ?_
 ·exact ⟨ha,Y⟩
 ·exact by6
 ·exact by5
 rintro i hI
 try dsimp only [List.cons_append,List.nil_append] at hI ⊢
 obtain ⟨hi,hu⟩:=hI
 refine QK ?_
 obtain ⟨b,hb⟩:=byteAt_ s i
 refine Zt 20 (i<s.size∧(blankC b.toNat=true∨b.toNat=35)) ?_ _ _ Y ?_
 ·skip
  refine QaF ?_
  refine Qby ?_;intro c8 h8
  refine Qb ?_
  obtain ⟨rfl,g8⟩|⟨rfl,g8⟩:=Za h8
  ·skip
   refine Qbi ?_
   refine QaL ?_
   refine Q1 ?_
   refine Qf ?_
   refine Yz Y ?_ by7 by5
   clear HB hu hb;first|(simp_all;done)|grind
  skip
  refine QbW ?_
  refine Zk 13 Y Y Y Y Y (Zj (xs:=[.tmp 12]) Y Y (HB _) by3 ?_);intro c13 h13
  refine Qc ?_
  obtain ⟨rfl,g13⟩|⟨rfl,g13⟩:=Za h13
  ·skip
   refine QbW ?_
   refine Qah ?_;intro c18 h18
   refine QX ?_
   refine Qf ?_
   refine Yz Y ?_ by7 by5
   clear HB hu hb;first|(simp_all;done)|grind
  skip
  refine Qh ?_
  refine QX ?_
  refine Qf ?_
  refine Yz Y ?_ by7 by5
  clear HB hu hb;first|(simp_all;done)|grind
 intro c20 h20
 refine Qe ?_
 obtain ⟨rfl,g20⟩|⟨rfl,g20⟩:=Za h20
 ·refine Qar ?_
  refine Qs ?_
  refine Qu ?_
  refine Zg Y Y (Le.inteq ?_) by5 ⟨Y,Y⟩
  rw [← hu]
  by_cases q:i<s.size
  ·rw [(hb q).2.1,ovr_stop _ (fun h=>g20 ⟨q,.inr h⟩) (fun h=>g20 ⟨q,.inl h⟩)];simp
  rw [rst_nil by16,ovr_nil];simp
 refine QaG ?_
 refine QO ?_
 refine Zb 23 Y Y Y (Ye Y tu_9 Y Y Y ((hb g20.1).1) ?_)
 refine Qi ?_;intro c24 h24
 refine Qa ?_
 obtain ⟨rfl,g24⟩|⟨rfl,g24⟩:=Za h24
 ·refine QP ?_
  refine Qbu ?_
  refine Qbb ?_
  first
  | (have hx:=over_exit hd g34
     have hij:i<j:=by
      rcases Nat.lt_or_ge i j with q|q
      ·exact q
      have:j=i:=by omega
      subst this
      have e:=(hd g20.1).1.symm.trans (hb g20.1).1
      cases e
      exact absurd ⟨g20.1,by omega⟩ g34
     exact ⟨j,⟨j2,by rw [← hx];exact hj⟩,by simp;omega,by6,by5⟩)
  | (refine ⟨i+1,⟨by omega,?_⟩,by simp;omega,by6,by5⟩
     have hn:b.toNat≠35:=by omega
     rw [(hb g20.1).2.1,ovr_blank _ hn (g20.2.resolve_right hn)] at hu
     omega)
 refine Qk ?_
 refine Qa3 ?_
 apply Zw (rg [(1,3),(25,12)]) (σ:=Nat) (fun zz=>match zz with|j=>[(1,.val (.int .i64 j))]) (fun zz=>match zz with|j=>i≤j∧j≤s.size∧j+ovr true (rst s j)=at_+ovr false (rst s at_)) (fun zz=>match zz with|j=>s.size - j) (i)
 ·repeat' (first|exact Xe|apply Xc rfl|apply Xd rfl)
 ·exact ⟨Nat.le_refl _,hi,by rw [← hu,(hb g20.1).2.1,show b.toNat=35 by omega,ovr_35]⟩
 ·exact by6
 rintro j hI
 try dsimp only [List.cons_append,List.nil_append] at hI ⊢
 obtain ⟨j1,j2,hj⟩:=hI
 refine QK ?_
 obtain ⟨d,hd⟩:=byteAt_ s j
 refine Zt 34 (j<s.size∧d.toNat≠10) ?_ _ _ Y ?_
 ·skip
  refine QaF ?_
  refine Qby ?_;intro c28 h28
  refine Qb ?_
  obtain ⟨rfl,g28⟩|⟨rfl,g28⟩:=Za h28
  ·skip
   refine Qh ?_
   refine Qf ?_
   refine Yz Y ?_ by7 by5
   simp_all;omega
  skip
  refine QbP ?_
  refine Zk 32 Y Y Y Y Y (Ye Y tu_9 Y Y Y ((hd by16).1) ?_)
  refine Qbe ?_;intro c33 h33
  refine Qf ?_
  refine Yz Y ?_ by7 by5
  simp_all;omega
 intro c34 h34
 refine Qe ?_
 obtain ⟨rfl,g34⟩|⟨rfl,g34⟩:=Za h34
 ·refine QP ?_
  refine c_exit (x_code (x_lp (x_here ?_)))
  refine Qak ?_
  first
  | (have hx:=over_exit hd g34
     have hij:i<j:=by
      rcases Nat.lt_or_ge i j with q|q
      ·exact q
      have:j=i:=by omega
      subst this
      have e:=(hd g20.1).1.symm.trans (hb g20.1).1
      cases e
      exact absurd ⟨g20.1,by omega⟩ g34
     exact ⟨j,⟨j2,by rw [← hx];exact hj⟩,by simp;omega,by6,by5⟩)
  | (refine ⟨i+1,⟨by omega,?_⟩,by simp;omega,by6,by5⟩
     have hn:b.toNat≠35:=by omega
     rw [(hb g20.1).2.1,ovr_blank _ hn (g20.2.resolve_right hn)] at hu
     omega)
 refine QaG ?_
 refine Qbu ?_
 refine Qbb ?_
 refine ⟨j+1,⟨by omega,by omega,?_⟩,by simp;omega,by6,by5⟩
 rw [(hd g34.1).2.1,ovr_n10 _ g34.2] at hj
 omega
theorem among_c (s:ByteArray) (l:List ByteArray):BCall Try.prog 63 [.val (.string s),.seq 1 (strs l)] (amongB s l=true):=by
 have hl:=strs_len l
 refine Zc Try.func63 Y (by kernel_rfl) Y (Xb Y) ?_
 refine Qan ?_
 refine c_lens (t:=1) Y (.seq _ _) (fun hmax=>?_)
 refine QC ?_
 refine QE ?_
 refine QM ?_
 refine c_loop (σ:=Nat) (fun zz=>match zz with|i=>[(0,.val (.string s)),(1,.seq 1 (strs l)),(5,.val (.int .i64 i))]) (fun zz=>match zz with|i=>[]) (fun zz=>match zz with|i=>i≤l.length∧amongB s l=amongB s (l.drop i)) (fun zz=>match zz with|i=>l.length - i) (0) ?_ ?_ ?_ ?_
 ·exact ⟨Nat.zero_le _,Y⟩
 ·exact by6
 ·exact by5
 rintro i hI
 try dsimp only [List.cons_append,List.nil_append] at hI ⊢
 obtain ⟨hi,hu⟩:=hI
 refine Qal ?_
 refine Qcs ?_;intro n8
 refine Qm ?_;intro c9 h9
 refine Qa ?_
 obtain ⟨rfl,g9⟩|⟨rfl,g9⟩:=Za h9
 ·refine Qbh ?_
  exact Zg Y Y (Yv _) by5 ⟨⟨_,iff_f (by rw [hu,List.drop_eq_nil_of_le by16];simp [amongB]),Y⟩,Y⟩
 refine QI ?_
 obtain ⟨x,hx⟩:=Zn (l:=l) (i:=i) by16
 have hcx:=strs_get hx
 have hd:l.drop i=x::l.drop (i+1):=by
  obtain ⟨h1,h2⟩:=List.getElem?_eq_some_iff.1 hx
  rw [List.drop_eq_getElem_cons h1,h2]
 refine QJ ?_
 refine Zb 14 Y Y Y (Zo Y te_22 Y (.seq _ _) Y Y by14 ?_)
 refine Qck ?_
 refine Qb ?_
 refine Qay ?_;intro c17 h17
 refine Qa ?_
 obtain ⟨rfl,g17⟩|⟨rfl,g17⟩:=Za h17
 ·refine Qaz ?_
  exact ⟨i+1,⟨by omega,by rw [hu,hd];simp [amongB];intro q;contradiction⟩,by simp;omega,by6,by5⟩
 refine QD ?_
 exact Zg Y Y (Yv _) by5 ⟨⟨_,iff_t (by rw [hu,hd];simp [amongB];exact .inl by14),Y⟩,Y⟩
theorem Key_c (s:ByteArray):BCall Try.prog 48 [.val (.string s)] (keyT s=true):=by
 have H:=among_c s keysL
 rw [show amongB s keysL=keyT s from rfl] at H
 simp only [strs,keysL,List.map_cons,List.map_nil] at H
 refine Zc Try.func48 Y (by kernel_rfl) Y (Xb Y) ?_
 refine Qat ?_
 refine Qs ?_
 refine Zb 4 Y Y Y (Ze (xs:=[.const (.string ⟨#[100,97,116,97]⟩),.const (.string ⟨#[99,108,97,115,115]⟩),.const (.string ⟨#[105,110,115,116,97,110,99,101]⟩),.const (.string ⟨#[102,114,111,109]⟩),.const (.string ⟨#[119,104,101,114,101]⟩),.const (.string ⟨#[101,110,100]⟩),.const (.string ⟨#[100,101,114,105,118,105,110,103]⟩),.const (.string ⟨#[100,101,102]⟩),.const (.string ⟨#[108,101,116]⟩),.const (.string ⟨#[114,101,99]⟩),.const (.string ⟨#[97,110,100]⟩),.const (.string ⟨#[105,110]⟩),.const (.string ⟨#[99,97,115,101]⟩),.const (.string ⟨#[111,102]⟩),.const (.string ⟨#[105,102]⟩),.const (.string ⟨#[116,104,101,110]⟩),.const (.string ⟨#[101,108,115,101]⟩)]) el_22 Y Y Y Y Y Y (Xb Y) ?_)
 refine Zb 5 Y Y Y (Zj (xs:=[.tmp 3,.tmp 4]) Y Y (H) by3 ?_);intro c5 h5
 refine Qu ?_
 exact Zg Y Y (Yv _) by5 ⟨⟨_,h5,Y⟩,Y⟩
theorem Mark_c (s:ByteArray):BCall Try.prog 88 [.val (.string s)] (markT s=true):=by
 have H:=among_c s marksL
 rw [show amongB s marksL=markT s from rfl] at H
 simp only [strs,marksL,List.map_cons,List.map_nil] at H
 refine Zc Try.func88 Y (by kernel_rfl) Y (Xb Y) ?_
 refine Qat ?_
 refine Qs ?_
 refine Zb 4 Y Y Y (Ze (xs:=[.const (.string ⟨#[40]⟩),.const (.string ⟨#[41]⟩),.const (.string ⟨#[44]⟩),.const (.string ⟨#[59]⟩),.const (.string ⟨#[92]⟩),.const (.string ⟨#[95]⟩),.const (.string ⟨#[61]⟩),.const (.string ⟨#[45,62]⟩),.const (.string ⟨#[124]⟩),.const (.string ⟨#[58]⟩)]) el_22 Y Y Y Y Y Y (Xb Y) ?_)
 refine Zb 5 Y Y Y (Zj (xs:=[.tmp 3,.tmp 4]) Y Y (H) by3 ?_);intro c5 h5
 refine Qu ?_
 exact Zg Y Y (Yv _) by5 ⟨⟨_,h5,Y⟩,Y⟩
def utfE (m:Int) (n:Nat):Option Int→Nat
 | none=>0
 | some v=>if v<m∨1114111<v∨(55296≤v∧v≤57343) then 0 else n
theorem utfL_go {c:Nat} {l:List Nat} (h1:¬ c<128) (h2:¬ (utfN c=0∨l.length+1<utfN c)):utfL (c::l)=utfE (utfM c) (utfN c) (cont (utfN c - 1) (utfV c) l):=by
 rw [utfL_cons,if_neg h1,if_neg h2]
 cases cont (utfN c - 1) (utfV c) l <;> rfl
theorem utfL_no {c:Nat} {l:List Nat} (h1:¬ c<128) (h2:utfN c=0∨l.length+1<utfN c):utfL (c::l)=0:=by
 rw [utfL_cons,if_neg h1,if_pos h2]
theorem pow_mono_ (i:Nat) (h:i≤4) (h1:1≤i):(64:Int) ^ (i - 1)≤262144∧(64:Int) ^ (i+1 - 1)=64 * 64 ^ (i - 1):=by
 rcases (by omega:i=1∨i=2∨i=3∨i=4) with rfl|rfl|rfl|rfl <;> decide
theorem utf_b (c:Nat):(utfN c=0∨2≤utfN c)∧utfN c≤4∧0≤utfV c∧utfV c+1≤32:=by
 refine ⟨?_,utfN_le _,?_,?_⟩
 ·unfold utfN;(repeat' split) <;> omega
 ·unfold utfV;(repeat' split) <;> omega
 unfold utfV;(repeat' split) <;> omega
theorem utf_all {c:Nat} (n v m:Int) (a1:192≤c∧c<224→n=2∧v=(c:Int) - 192∧m=128) (a2:224≤c∧c<240→n=3∧v=(c:Int) - 224∧m=2048) (a3:240≤c∧c<248→n=4∧v=(c:Int) - 240∧m=65536) (a4:c<192∨248≤c→n=0∧v=0∧m=0):n=(utfN c:Nat)∧v=utfV c∧m=utfM c:=by
 unfold utfN utfV utfM
 refine ⟨?_,?_,?_⟩
 ·(repeat' split) <;> omega
 ·(repeat' split) <;> omega
 (repeat' split) <;> omega
theorem Utf_c (s:ByteArray) (hs:s.size≤60000) (at_:Nat) (ha:at_<s.size):PCall Try.prog 82 [.val (.string s),.val (.int .i64 at_)] (.val (.int .i64 (utfL (rst s at_):Nat))):=by
 obtain ⟨b,hb,hr,hlt⟩:=Ym ha
 rw [hr]
 have hl:=rst_len s (at_+1)
 have hno:=utfL_no (c:=b.toNat) (l:=rst s (at_+1))
 have hgo:=utfL_go (c:=b.toNat) (l:=rst s (at_+1))
 rw [hl] at hno hgo
 refine Zc Try.func82 Y (by kernel_rfl) Y (Xb Y) ?_
 refine Qat ?_
 refine QO ?_
 refine Qcr ?_
 refine Qd4 ?_
 refine Qd ?_
 refine QC ?_
 refine QC ?_
 refine QC ?_
 refine QU ?_
 refine Qm ?_;intro c16 h16
 refine Qa ?_
 obtain ⟨rfl,g16⟩|⟨rfl,g16⟩:=Za h16
 ·refine QF ?_
  refine QK ?_
  refine Zt 22 (192≤b.toNat∧b.toNat<224) ?_ _ _ Y ?_
  ·skip
   refine QbT ?_;intro c18 h18
   refine Qb ?_
   obtain ⟨rfl,g18⟩|⟨rfl,g18⟩:=Za h18
   ·skip
    refine Qae ?_
    refine Yz Y ?_ by7 by5
    clear hno hgo;first|(simp_all;done)|(simp_all;omega)|grind
   skip
   refine Qc ?_
   refine QcW ?_;intro c21 h21
   refine Qf ?_
   refine Yz Y ?_ by7 by5
   clear hno hgo;first|(simp_all;done)|(simp_all;omega)|grind
  intro c22 h22
  refine Qe ?_
  apply c_joinkm (rg [(2,2),(6,3),(11,14)]) (σ:=Int × Int × Int) (fun zz=>match zz with|(n,v,m)=>[(6,.val (.int .i64 n)),(7,.val (.int .i64 v)),(8,.val (.int .i64 m))]) (fun zz=>match zz with|(n,v,m)=>(192≤b.toNat∧b.toNat<224→n=2∧v=(b.toNat:Int) - 192∧m=128)∧(¬ (192≤b.toNat∧b.toNat<224)→n=0∧v=0∧m=0))
  ·repeat' (first|exact Xe|apply Xc rfl|apply Xd rfl)
  ·skip
   obtain ⟨rfl,g22⟩|⟨rfl,g22⟩:=Za h22
   ·refine QbX ?_
    first|exact ⟨(2,(b.toNat:Int) - 192,128),⟨fun _=>⟨rfl,rfl,rfl⟩,fun q=>absurd g22 q⟩,by6,by5⟩|exact ⟨(0,0,0),⟨fun q=>absurd q g22,fun _=>⟨rfl,rfl,rfl⟩⟩,by6,by5⟩
   refine Qk ?_
   refine QC ?_
   refine Qs ?_
   refine QT ?_
   refine Qd ?_
   refine Qj ?_
   refine Qaj ?_
   first|exact ⟨(2,(b.toNat:Int) - 192,128),⟨fun _=>⟨rfl,rfl,rfl⟩,fun q=>absurd g22 q⟩,by6,by5⟩|exact ⟨(0,0,0),⟨fun q=>absurd q g22,fun _=>⟨rfl,rfl,rfl⟩⟩,by6,by5⟩
  rintro ⟨n,v,m⟩ hI
  try dsimp only [List.cons_append,List.nil_append] at hI ⊢
  obtain ⟨j1,j2⟩:=hI
  refine Qe ?_
  refine QK ?_
  refine Zt 30 (224≤b.toNat∧b.toNat<240) ?_ _ _ Y ?_
  ·skip
   refine QbT ?_;intro c26 h26
   refine Qb ?_
   obtain ⟨rfl,g26⟩|⟨rfl,g26⟩:=Za h26
   ·skip
    refine Qae ?_
    refine Yz Y ?_ by7 by5
    clear hno hgo;first|(simp_all;done)|(simp_all;omega)|grind
   skip
   refine Qc ?_
   refine QcW ?_;intro c29 h29
   refine Qf ?_
   refine Yz Y ?_ by7 by5
   clear hno hgo;first|(simp_all;done)|(simp_all;omega)|grind
  intro c30 h30
  refine Qe ?_
  apply c_joinkm (rg [(2,2),(6,3),(11,22)]) (σ:=Int × Int × Int) (fun zz=>match zz with|(n2,v2,m2)=>[(6,.val (.int .i64 n2)),(7,.val (.int .i64 v2)),(8,.val (.int .i64 m2))]) (fun zz=>match zz with|(n2,v2,m2)=>(224≤b.toNat∧b.toNat<240→n2=3∧v2=(b.toNat:Int) - 224∧m2=2048)∧(¬ (224≤b.toNat∧b.toNat<240)→n2=n∧v2=v∧m2=m))
  ·repeat' (first|exact Xe|apply Xc rfl|apply Xd rfl)
  ·skip
   obtain ⟨rfl,g30⟩|⟨rfl,g30⟩:=Za h30
   ·refine QbX ?_
    first|exact ⟨(3,(b.toNat:Int) - 224,2048),⟨fun _=>⟨rfl,rfl,rfl⟩,fun q=>absurd g30 q⟩,by6,by5⟩|exact ⟨(n,v,m),⟨fun q=>absurd q g30,fun _=>⟨rfl,rfl,rfl⟩⟩,by6,by5⟩
   refine Qk ?_
   refine QC ?_
   refine Qs ?_
   refine QT ?_
   refine Qd ?_
   refine Qj ?_
   refine Qaj ?_
   first|exact ⟨(3,(b.toNat:Int) - 224,2048),⟨fun _=>⟨rfl,rfl,rfl⟩,fun q=>absurd g30 q⟩,by6,by5⟩|exact ⟨(n,v,m),⟨fun q=>absurd q g30,fun _=>⟨rfl,rfl,rfl⟩⟩,by6,by5⟩
  rintro ⟨n2,v2,m2⟩ hI
  try dsimp only [List.cons_append,List.nil_append] at hI ⊢
  obtain ⟨j3,j4⟩:=hI
  refine Qe ?_
  refine QK ?_
  refine Zt 38 (240≤b.toNat∧b.toNat<248) ?_ _ _ Y ?_
  ·skip
   refine QbT ?_;intro c34 h34
   refine Qb ?_
   obtain ⟨rfl,g34⟩|⟨rfl,g34⟩:=Za h34
   ·skip
    refine Qae ?_
    refine Yz Y ?_ by7 by5
    clear hno hgo;first|(simp_all;done)|(simp_all;omega)|grind
   skip
   refine Qc ?_
   refine QcW ?_;intro c37 h37
   refine Qf ?_
   refine Yz Y ?_ by7 by5
   clear hno hgo;first|(simp_all;done)|(simp_all;omega)|grind
  intro c38 h38
  refine Qe ?_
  apply c_joinkm (rg [(2,2),(5,4),(11,30)]) (σ:=Int × Int × Int) (fun zz=>match zz with|(n3,v3,m3)=>[(6,.val (.int .i64 n3)),(7,.val (.int .i64 v3)),(8,.val (.int .i64 m3))]) (fun zz=>match zz with|(n3,v3,m3)=>n3=(utfN b.toNat:Nat)∧v3=utfV b.toNat∧m3=utfM b.toNat)
  ·repeat' (first|exact Xe|apply Xc rfl|apply Xd rfl)
  ·skip
   obtain ⟨rfl,g38⟩|⟨rfl,g38⟩:=Za h38
   ·refine QbX ?_
    first|exact ⟨(4,(b.toNat:Int) - 240,65536),utf_all _ _ _ (fun q=>by omega) (fun q=>by omega) (fun _=>⟨rfl,rfl,rfl⟩) (fun q=>by omega),by6,by5⟩|exact ⟨(n2,v2,m2),utf_all _ _ _ (fun q=>by have:=j1 q;have:=j4 by16;omega) (fun q=>j3 q) (fun q=>absurd q g38) (fun q=>by have:=j2 by16;have:=j4 by16;omega),by6,by5⟩
   refine Qk ?_
   refine QC ?_
   refine Qs ?_
   refine QT ?_
   refine Qd ?_
   refine Qj ?_
   refine Qaj ?_
   first|exact ⟨(4,(b.toNat:Int) - 240,65536),utf_all _ _ _ (fun q=>by omega) (fun q=>by omega) (fun _=>⟨rfl,rfl,rfl⟩) (fun q=>by omega),by6,by5⟩|exact ⟨(n2,v2,m2),utf_all _ _ _ (fun q=>by have:=j1 q;have:=j4 by16;omega) (fun q=>j3 q) (fun q=>absurd q g38) (fun q=>by have:=j2 by16;have:=j4 by16;omega),by6,by5⟩
  rintro ⟨n3,v3,m3⟩ hI
  try dsimp only [List.cons_append,List.nil_append] at hI ⊢
  obtain ⟨rfl,rfl,rfl⟩:=hI
  have hN:=utf_b b.toNat
  clear j1 j2 j3 j4
  generalize utfN b.toNat=N at *
  generalize utfV b.toNat=V at *
  generalize utfM b.toNat=W at *
  obtain ⟨k1,k2,k3,k4⟩:=hN
  refine Qe ?_
  refine QK ?_
  refine Zt 50 (N=0∨s.size<at_+N) ?_ _ _ Y ?_
  ·skip
   refine QbU ?_;intro c42 h42
   refine Qb ?_
   obtain ⟨rfl,g42⟩|⟨rfl,g42⟩:=Za h42
   ·skip
    refine QbP ?_
    refine Qd5 ?_
    refine Qc ?_
    refine Qdg ?_
    refine Qcc ?_;intro c49 h49
    refine Qf ?_
    refine Yz Y ?_ by7 by5
    clear hno hgo;first|(simp_all;done)|(simp_all;omega)|grind
   skip
   refine Qh ?_
   refine Qae ?_
   refine Yz Y ?_ by7 by5
   clear hno hgo;first|(simp_all;done)|(simp_all;omega)|grind
  intro c50 h50
  refine Qe ?_
  obtain ⟨rfl,g50⟩|⟨rfl,g50⟩:=Za h50
  ·refine QF ?_
   refine QK ?_
   have hU:=hgo by16 by16
   refine c_le (al':=[(0,.val (.string s)),(1,.val (.int .i64 at_)),(6,.val (.int .i64 N)),(7,.val (.int .i64 V)),(8,.val (.int .i64 W))]) by6 (MLe.refl _) ?_
   refine Qj ?_
   refine Qbj ?_
   apply Zw (rg [(2,4),(7,1),(9,64)]) (σ:=Nat × Int) (fun zz=>match zz with|(i,v)=>[(7,.val (.int .i64 v)),(9,.val (.int .i64 i))]) (fun zz=>match zz with|(i,v)=>1≤i∧i≤N∧0≤v∧v+1≤32 * 64 ^ (i - 1)∧cont (N - 1) V (rst s (at_+1))=cont (N - i) v (rst s (at_+i))) (fun zz=>match zz with|(i,v)=>N - i) ((1,V))
   ·repeat' (first|exact Xe|apply Xc rfl|apply Xd rfl)
   ·refine ⟨Nat.le_refl _,by show 1≤N;omega,by show 0≤V;omega,?_,Y⟩
    show V+1≤32 * 64 ^ 0
    omega
   ·exact by6
   rintro ⟨i,v⟩ hI
   try dsimp only [List.cons_append,List.nil_append] at hI ⊢
   obtain ⟨h1,h2,h3,h4,hu⟩:=hI
   have hp:=pow_mono_ i by16 h1
   refine Qal ?_
   refine Qm ?_;intro c53 h53
   refine Qa ?_
   obtain ⟨rfl,g53⟩|⟨rfl,g53⟩:=Za h53
   ·refine QbS ?_
    have he:utfL (b.toNat::rst s (at_+1))=utfE W N (some v):=by rw [hU,hu,show N - i=0 by omega];cases rst s (at_+i) <;> rfl
    refine Zt 87 (v<W∨1114111<v∨(55296≤v∧v≤57343)) ?_ _ _ Y ?_
    ·skip
     refine QaF ?_
     refine Qm ?_;intro c75 h75
     refine Qb ?_
     obtain ⟨rfl,g75⟩|⟨rfl,g75⟩:=Za h75
     ·skip
      refine Qc ?_
      refine Qcc ?_;intro c78 h78
      refine Qp ?_
      obtain ⟨rfl,g78⟩|⟨rfl,g78⟩:=Za h78
      ·skip
       refine Qc ?_
       refine Qdw ?_;intro c82 h82
       refine Qc ?_
       obtain ⟨rfl,g82⟩|⟨rfl,g82⟩:=Za h82
       ·skip
        refine QZ ?_
        refine QX ?_
        refine Qf ?_
        refine Yz Y ?_ by7 by5
        simp_all;omega
       skip
       refine Qc ?_
       refine QcK ?_;intro c85 h85
       refine QX ?_
       refine Qf ?_
       refine Yz Y ?_ by7 by5
       simp_all;omega
      skip
      refine Qad ?_
      refine QaC ?_
      refine Q1 ?_
      refine Qf ?_
      refine Yz Y ?_ by7 by5
      simp_all;done
     skip
     refine QaN ?_
     refine Qad ?_
     refine QaC ?_
     refine Q1 ?_
     refine Qf ?_
     refine Yz Y ?_ by7 by5
     simp_all;done
    intro c87 h87
    refine Qe ?_
    obtain ⟨rfl,g87⟩|⟨rfl,g87⟩:=Za h87
    ·refine Q3 ?_
     refine Qu ?_
     exact Zg Y Y (Le.inteq (by rw [he,utfE,if_neg g87])) by5 ⟨Y,Y⟩
    refine QD ?_
    exact Zg Y Y (Le.inteq (by rw [he,utfE,if_pos g87];rfl)) by5 ⟨Y,Y⟩
   refine QI ?_
   obtain ⟨d,hd,hrd,hdl⟩:=Ym (s:=s) (i:=at_+i) by16
   refine QJ ?_
   refine Qb ?_
   refine Qax ?_
   refine Zb 60 Y Y Y (Ye (i:=at_+i) Y tu_9 Y Y (by first|rfl|omega) (hd) ?_)
   refine Qd4 ?_
   refine Qbx ?_
   refine Zt 67 (d.toNat<128∨191<d.toNat) ?_ _ _ Y ?_
   ·skip
    refine Qb ?_
    refine Qm ?_;intro c63 h63
    refine Qb ?_
    obtain ⟨rfl,g63⟩|⟨rfl,g63⟩:=Za h63
    ·skip
     refine Qc ?_
     refine Qcc ?_;intro c66 h66
     refine Qf ?_
     refine Yz Y ?_ by7 by5
     simp_all;omega
    skip
    refine Qae ?_
    refine Yz Y ?_ by7 by5
    simp_all;omega
   intro c67 h67
   refine Qe ?_
   obtain ⟨rfl,g67⟩|⟨rfl,g67⟩:=Za h67
   ·refine QF ?_
    refine Qg ?_
    refine Zb 69 Y Y Y (op_mul Y Y Y (IntWalk.i64_in _ by16) ?_)
    refine Qb ?_
    refine Qax ?_
    refine QT ?_
    refine Qam ?_
    refine ⟨(i+1,64 * v+d.toNat - 128),⟨by omega,by omega,by omega,?_,?_⟩,by simp;omega,by6,by5⟩
    ·rw [hp.2];omega
    rw [hu,hrd,show N - i=(N - (i+1))+1 by omega,cont,if_neg by16];rfl
   refine QD ?_
   exact Zg Y Y (Le.inteq (by rw [hU,hu,hrd,show N - i=(N - i - 1)+1 by omega,cont,if_pos by16];rfl)) by5 ⟨Y,Y⟩
  refine QD ?_
  exact Zg Y Y (Le.inteq (by rw [hno by16 by16];rfl)) by5 ⟨Y,Y⟩
 refine QD ?_
 exact Zg Y Y (Le.inteq (by rw [utfL_cons,if_pos by16];rfl)) by5 ⟨Y,Y⟩
theorem bad_c (s:ByteArray) (hs:s.size≤60000):PCall Try.prog 68 [.val (.string s)] (.val (.int .i64 (badF (s.size+1) 0 (rst s 0)))):=by
 refine Zc Try.func68 Y (by kernel_rfl) Y (Xb Y) ?_
 refine QaZ ?_
 refine QM ?_
 refine c_loop (σ:=Nat × Nat) (fun zz=>match zz with|(i,f)=>[(0,.val (.string s)),(3,.val (.int .i64 i))]) (fun zz=>match zz with|(i,f)=>[]) (fun zz=>match zz with|(i,f)=>i≤s.size∧s.size - i<f∧badF (s.size+1) 0 (rst s 0)=badF f i (rst s i)) (fun zz=>match zz with|(i,f)=>s.size - i) ((0,s.size+1)) ?_ ?_ ?_ ?_
 ·exact ⟨Nat.zero_le _,by omega,Y⟩
 ·exact by6
 ·exact by5
 rintro ⟨i,f⟩ hI
 try dsimp only [List.cons_append,List.nil_append] at hI ⊢
 obtain ⟨hi,hf,hu⟩:=hI
 refine Qal ?_
 refine Qby ?_;intro c8 h8
 refine Qa ?_
 obtain ⟨rfl,g8⟩|⟨rfl,g8⟩:=Za h8
 ·refine Qbh ?_
  refine Zg Y Y (Le.inteq ?_) by5 ⟨Y,Y⟩
  rw [hu,rst_nil by16]
  cases f <;> rfl
 refine QaG ?_
 refine QE ?_
 obtain ⟨b,_,hr,_⟩:=Ym (s:=s) (i:=i) by16
 have hle:=utfL_le (rst s i)
 rw [rst_len] at hle
 obtain ⟨f,rfl⟩:∃ f',f=f'+1:=⟨f - 1,by omega⟩
 have hb:badF (f+1) i (rst s i)=if utfL (rst s i)=0 then (i:Int) else badF f (i+utfL (rst s i)) (rst s (i+utfL (rst s i))):=by
  rw [← rst_drop,hr];rfl
 refine QJ ?_
 refine Zb 11 Y Y Y (Zd (xs:=[.tmp 9,.tmp 10]) Y Y (Utf_c s hs i by16) by3 ?_)
 refine Qbz ?_
 refine Qi ?_;intro c13 h13
 refine Qa ?_
 obtain ⟨rfl,g13⟩|⟨rfl,g13⟩:=Za h13
 ·refine QF ?_
  refine QJ ?_
  refine Qax ?_
  refine Qbb ?_
  refine ⟨(i+utfL (rst s i),f),⟨by omega,by omega,?_⟩,by simp;omega,by6,by5⟩
  rw [hu,hb,if_neg by16]
 refine QaH ?_
 refine Qu ?_
 refine Zg Y Y (Le.inteq ?_) by5 ⟨Y,Y⟩
 rw [hu,hb,if_pos by16]
def zi (l:List Nat):List Int:=l.map fun k:Nat=>(k:Int)
theorem zi_len (l:List Nat):(bts (zi l)).length=l.length:=by simp [bts,zi]
def txR (at_:Nat):Option (List Nat × Nat)→AV
 | none=>.tup [.val (.string ⟨#[]⟩),.val (.int .i64 0),.val (.bool false)]
 | some r=>.tup [.val (.string (strN r.1)),.val (.int .i64 ((at_+1+r.2:Nat):Int)),.val (.bool true)]
theorem tx_end (l:List Nat):txL (34::l)=some ([],1):=by rw [txL.eq_def];rfl
theorem tx_10 (l:List Nat):txL (10::l)=none:=by rw [txL.eq_def];rfl
theorem tx_more {c:Nat} (l:List Nat) (h1:c≠34) (h2:c≠10) (h3:c≠92):txL (c::l)=(txL l).map fun r=>(c::r.1,r.2+1):=by
 rw [txL.eq_def];simp only [if_neg h1,if_neg h2,if_neg h3]
theorem tx_esc0:txL [92]=none:=by rfl
theorem tx_esc (d:Nat) (l:List Nat):txL (92::d::l)=match unesc d with
    | none=>none
    | some x=>(txL l).map fun r=>(x::r.1,r.2+2):=by rw [txL.eq_def];rfl
theorem Yo {A:Option (List Nat × Nat)} {acc:List Nat} {k k' x m:Nat} (h:k'=k+m):(A.map fun r:List Nat × Nat=>(x::r.1,r.2+m)).map (fun r:List Nat × Nat=>(acc++r.1,r.2+k))=A.map fun r:List Nat × Nat=>((acc++[x])++r.1,r.2+k'):=by
 cases A with
 | none=>rfl
 | some r=>simp;omega
theorem escBytes:bytesN ⟨#[110,116,34,92]⟩=[110,116,34,92]:=by decide
theorem text_c (s:ByteArray) (hs:s.size≤60000) (at_:Nat) (ha:at_<s.size):PCall Try.prog 84 [.val (.string s),.val (.int .i64 at_)] (txR at_ (txL (rst s (at_+1)))):=by
 have HI:=fun c=>in_c ⟨#[110,116,34,92]⟩ by15 c
 rw [escBytes] at HI
 refine Zc Try.func84 Y (by kernel_rfl) Y (Xb Y) ?_
 refine Qv ?_
 refine QaR ?_
 refine QaW ?_
 refine QC ?_
 refine QK ?_
 refine ACode.ownNil (t:=7) 5 1 Y ?_
 refine Qbu ?_
 refine Qbj ?_
 apply Yn (rg [(1,50)]) (σ:=Nat × List Nat × Value) (fun zz=>match zz with|(i,acc,u)=>[(7,.own u 1 (bts (zi acc))),(8,.val (.int .i64 i))]) (fun zz=>match zz with|(i,acc,u)=>[.own 5 1 u]) (fun zz=>match zz with|(i,acc,u)=>at_+1≤i∧i≤s.size∧acc.length≤i∧txL (rst s (at_+1))=(txL (rst s i)).map fun r=>(acc++r.1,r.2+(i - (at_+1)))) (fun zz=>match zz with|(i,acc,u)=>s.size - i) ((at_+1,[],.slice none 0 0))
 ·repeat' (first|exact Xe|apply Xc rfl|apply Xd rfl)
 ·refine ⟨Nat.le_refl _,ha,Nat.zero_le _,?_⟩
  cases txL (rst s (at_+1)) <;> simp
 ·exact (by repeat' (first|exact SLe.nil _|refine Yy Y ?_ ?_|exact Yv _|exact Le.own _ _ _|exact Le.nil _|(refine Xa ?_;rfl)|(refine Le.own_seq ?_;rfl)|(refine Le.seq_eq ?_;rfl)))
 ·exact by5
 rintro ⟨i,acc,u⟩ hI
 try dsimp only [List.cons_append,List.nil_append] at hI ⊢
 obtain ⟨h1,h2,h3,hu⟩:=hI
 have hle:(bts (zi acc)).length≤100000000:=by rw [zi_len];omega
 refine Qal ?_
 refine Qby ?_;intro c15 h15
 refine Qa ?_
 obtain ⟨rfl,g15⟩|⟨rfl,g15⟩:=Za h15
 ·refine Qar ?_
  refine Qn ?_
  refine QbY ?_
  refine out_ttt Y Y Y Y (Yv _) by5 ⟨?_,Y⟩
  rw [hu,rst_nil by16];rfl
 refine QI ?_
 obtain ⟨b,hb,hr,hlt⟩:=Ym (s:=s) (i:=i) by16
 refine QJ ?_
 refine Qcr ?_
 refine Qbz ?_
 refine Qi ?_;intro c22 h22
 refine Qa ?_
 obtain ⟨rfl,g22⟩|⟨rfl,g22⟩:=Za h22
 ·refine Qav ?_
  refine Qi ?_;intro c28 h28
  refine Qa ?_
  obtain ⟨rfl,g28⟩|⟨rfl,g28⟩:=Za h28
  ·refine Qav ?_
   refine Qi ?_;intro c30 h30
   refine Qa ?_
   obtain ⟨rfl,g30⟩|⟨rfl,g30⟩:=Za h30
   ·refine QF ?_
    refine QJ ?_
    refine QcX ?_
    refine QcY ?_
    intro u50
    refine Qam ?_
    first
    |(exfalso;clear hu;omega)
    | (have hm:=tx_more (rst s (i+1)) (c:=b.toNat) (by clear hu;omega) (by clear hu;omega) (by clear hu;omega)
       rw [hr,hm,Yo (k':=i+1 - (at_+1)) by16] at hu
       exact ⟨(i+1,acc++[b.toNat],u50),⟨by omega,by omega,by simp;omega,hu⟩,by simp;omega,Yy Y (Xa by10) by6,by5⟩)
    | (have hx:unesc d.toNat=some 10:=by rw [show d.toNat=110 by clear hu;omega];rfl
       rw [hx] at hu
       simp only [] at hu
       rw [Yo (k':=i+1+1 - (at_+1)) by16] at hu
       exact ⟨(i+1+1,acc++[10],u50),⟨by omega,by omega,by simp;omega,hu⟩,by simp;omega,Yy Y (Xa by10) by6,by5⟩)
    | (have hx:unesc d.toNat=some 9:=by rw [show d.toNat=116 by clear hu;omega];rfl
       rw [hx] at hu
       simp only [] at hu
       rw [Yo (k':=i+1+1 - (at_+1)) by16] at hu
       exact ⟨(i+1+1,acc++[9],u50),⟨by omega,by omega,by simp;omega,hu⟩,by simp;omega,Yy Y (Xa by10) by6,by5⟩)
    | (have hx:unesc d.toNat=some d.toNat:=by unfold unesc;rw [if_neg (by clear hu;omega),if_neg (by clear hu;omega),if_pos (by clear hu;omega)]
       rw [hx] at hu
       simp only [] at hu
       rw [Yo (k':=i+1+1 - (at_+1)) by16] at hu
       exact ⟨(i+1+1,acc++[d.toNat],u50),⟨by omega,by omega,by simp;omega,hu⟩,by simp;omega,Yy Y (Xa by10) by6,by5⟩)
   refine QaH ?_
   refine Qax ?_
   refine Qd ?_
   refine Qal ?_
   refine Qcb ?_
   refine Qi ?_;intro c36 h36
   refine Qa ?_
   obtain ⟨rfl,g36⟩|⟨rfl,g36⟩:=Za h36
   ·refine Qt ?_
    obtain ⟨d,hd,hrd,hdl⟩:=Ym (s:=s) (i:=i+1) by16
    have hE:=tx_esc d.toNat (rst s (i+1+1))
    have hr2:rst s i=92::d.toNat::rst s (i+1+1):=by rw [hr,hrd,show b.toNat=92 by omega]
    rw [hr2,hE] at hu
    refine QJ ?_
    refine Zb 39 Y Y Y (Ye (i:=i+1) Y tu_9 Y Y (by first|rfl|omega) (hd) ?_)
    refine Qbz ?_
    refine Zb 41 Y Y Y (Zj (xs:=[.const (.string ⟨#[110,116,34,92]⟩),.tmp 40]) Y Y (HI _) by3 ?_);intro c41 h41
    refine Qab ?_;intro c42 h42
    try replace h42:=nott h42 h41
    refine Qa ?_
    obtain ⟨rfl,g42⟩|⟨rfl,g42⟩:=Za h42
    ·refine QF ?_
     refine QK ?_
     have hmem:d.toNat=110∨d.toNat=116∨d.toNat=34∨d.toNat=92:=by clear hu hE hr2 hrd hd hr hb HI;simp_all;clear h41;omega
     refine Qg ?_
     refine Qi ?_;intro c44 h44
     refine Qa ?_
     obtain ⟨rfl,g44⟩|⟨rfl,g44⟩:=Za h44
     ·refine Q3 ?_
      refine Qi ?_;intro c46 h46
      refine Qa ?_
      obtain ⟨rfl,g46⟩|⟨rfl,g46⟩:=Za h46
      ·refine QF ?_
       refine QJ ?_
       refine QcX ?_
       refine QcY ?_
       intro u50
       refine Qam ?_
       first
       |(exfalso;clear hu;omega)
       | (have hm:=tx_more (rst s (i+1)) (c:=b.toNat) (by clear hu;omega) (by clear hu;omega) (by clear hu;omega)
          rw [hr,hm,Yo (k':=i+1 - (at_+1)) by16] at hu
          exact ⟨(i+1,acc++[b.toNat],u50),⟨by omega,by omega,by simp;omega,hu⟩,by simp;omega,Yy Y (Xa by10) by6,by5⟩)
       | (have hx:unesc d.toNat=some 10:=by rw [show d.toNat=110 by clear hu;omega];rfl
          rw [hx] at hu
          simp only [] at hu
          rw [Yo (k':=i+1+1 - (at_+1)) by16] at hu
          exact ⟨(i+1+1,acc++[10],u50),⟨by omega,by omega,by simp;omega,hu⟩,by simp;omega,Yy Y (Xa by10) by6,by5⟩)
       | (have hx:unesc d.toNat=some 9:=by rw [show d.toNat=116 by clear hu;omega];rfl
          rw [hx] at hu
          simp only [] at hu
          rw [Yo (k':=i+1+1 - (at_+1)) by16] at hu
          exact ⟨(i+1+1,acc++[9],u50),⟨by omega,by omega,by simp;omega,hu⟩,by simp;omega,Yy Y (Xa by10) by6,by5⟩)
       | (have hx:unesc d.toNat=some d.toNat:=by unfold unesc;rw [if_neg (by clear hu;omega),if_neg (by clear hu;omega),if_pos (by clear hu;omega)]
          rw [hx] at hu
          simp only [] at hu
          rw [Yo (k':=i+1+1 - (at_+1)) by16] at hu
          exact ⟨(i+1+1,acc++[d.toNat],u50),⟨by omega,by omega,by simp;omega,hu⟩,by simp;omega,Yy Y (Xa by10) by6,by5⟩)
      refine Qk ?_
      refine Qj ?_
      refine Qd ?_
      refine QJ ?_
      refine QcX ?_
      refine QcY ?_
      intro u50
      refine Qam ?_
      first
      |(exfalso;clear hu;omega)
      | (have hm:=tx_more (rst s (i+1)) (c:=b.toNat) (by clear hu;omega) (by clear hu;omega) (by clear hu;omega)
         rw [hr,hm,Yo (k':=i+1 - (at_+1)) by16] at hu
         exact ⟨(i+1,acc++[b.toNat],u50),⟨by omega,by omega,by simp;omega,hu⟩,by simp;omega,Yy Y (Xa by10) by6,by5⟩)
      | (have hx:unesc d.toNat=some 10:=by rw [show d.toNat=110 by clear hu;omega];rfl
         rw [hx] at hu
         simp only [] at hu
         rw [Yo (k':=i+1+1 - (at_+1)) by16] at hu
         exact ⟨(i+1+1,acc++[10],u50),⟨by omega,by omega,by simp;omega,hu⟩,by simp;omega,Yy Y (Xa by10) by6,by5⟩)
      | (have hx:unesc d.toNat=some 9:=by rw [show d.toNat=116 by clear hu;omega];rfl
         rw [hx] at hu
         simp only [] at hu
         rw [Yo (k':=i+1+1 - (at_+1)) by16] at hu
         exact ⟨(i+1+1,acc++[9],u50),⟨by omega,by omega,by simp;omega,hu⟩,by simp;omega,Yy Y (Xa by10) by6,by5⟩)
      | (have hx:unesc d.toNat=some d.toNat:=by unfold unesc;rw [if_neg (by clear hu;omega),if_neg (by clear hu;omega),if_pos (by clear hu;omega)]
         rw [hx] at hu
         simp only [] at hu
         rw [Yo (k':=i+1+1 - (at_+1)) by16] at hu
         exact ⟨(i+1+1,acc++[d.toNat],u50),⟨by omega,by omega,by simp;omega,hu⟩,by simp;omega,Yy Y (Xa by10) by6,by5⟩)
     refine Qk ?_
     refine Qj ?_
     refine QaI ?_
     refine Qi ?_;intro c46 h46
     refine Qa ?_
     obtain ⟨rfl,g46⟩|⟨rfl,g46⟩:=Za h46
     ·refine QF ?_
      refine QJ ?_
      refine QcX ?_
      refine QcY ?_
      intro u50
      refine Qam ?_
      first
      |(exfalso;clear hu;omega)
      | (have hm:=tx_more (rst s (i+1)) (c:=b.toNat) (by clear hu;omega) (by clear hu;omega) (by clear hu;omega)
         rw [hr,hm,Yo (k':=i+1 - (at_+1)) by16] at hu
         exact ⟨(i+1,acc++[b.toNat],u50),⟨by omega,by omega,by simp;omega,hu⟩,by simp;omega,Yy Y (Xa by10) by6,by5⟩)
      | (have hx:unesc d.toNat=some 10:=by rw [show d.toNat=110 by clear hu;omega];rfl
         rw [hx] at hu
         simp only [] at hu
         rw [Yo (k':=i+1+1 - (at_+1)) by16] at hu
         exact ⟨(i+1+1,acc++[10],u50),⟨by omega,by omega,by simp;omega,hu⟩,by simp;omega,Yy Y (Xa by10) by6,by5⟩)
      | (have hx:unesc d.toNat=some 9:=by rw [show d.toNat=116 by clear hu;omega];rfl
         rw [hx] at hu
         simp only [] at hu
         rw [Yo (k':=i+1+1 - (at_+1)) by16] at hu
         exact ⟨(i+1+1,acc++[9],u50),⟨by omega,by omega,by simp;omega,hu⟩,by simp;omega,Yy Y (Xa by10) by6,by5⟩)
      | (have hx:unesc d.toNat=some d.toNat:=by unfold unesc;rw [if_neg (by clear hu;omega),if_neg (by clear hu;omega),if_pos (by clear hu;omega)]
         rw [hx] at hu
         simp only [] at hu
         rw [Yo (k':=i+1+1 - (at_+1)) by16] at hu
         exact ⟨(i+1+1,acc++[d.toNat],u50),⟨by omega,by omega,by simp;omega,hu⟩,by simp;omega,Yy Y (Xa by10) by6,by5⟩)
     refine Qk ?_
     refine Qj ?_
     refine Qd ?_
     refine QJ ?_
     refine QcX ?_
     refine QcY ?_
     intro u50
     refine Qam ?_
     first
     |(exfalso;clear hu;omega)
     | (have hm:=tx_more (rst s (i+1)) (c:=b.toNat) (by clear hu;omega) (by clear hu;omega) (by clear hu;omega)
        rw [hr,hm,Yo (k':=i+1 - (at_+1)) by16] at hu
        exact ⟨(i+1,acc++[b.toNat],u50),⟨by omega,by omega,by simp;omega,hu⟩,by simp;omega,Yy Y (Xa by10) by6,by5⟩)
     | (have hx:unesc d.toNat=some 10:=by rw [show d.toNat=110 by clear hu;omega];rfl
        rw [hx] at hu
        simp only [] at hu
        rw [Yo (k':=i+1+1 - (at_+1)) by16] at hu
        exact ⟨(i+1+1,acc++[10],u50),⟨by omega,by omega,by simp;omega,hu⟩,by simp;omega,Yy Y (Xa by10) by6,by5⟩)
     | (have hx:unesc d.toNat=some 9:=by rw [show d.toNat=116 by clear hu;omega];rfl
        rw [hx] at hu
        simp only [] at hu
        rw [Yo (k':=i+1+1 - (at_+1)) by16] at hu
        exact ⟨(i+1+1,acc++[9],u50),⟨by omega,by omega,by simp;omega,hu⟩,by simp;omega,Yy Y (Xa by10) by6,by5⟩)
     | (have hx:unesc d.toNat=some d.toNat:=by unfold unesc;rw [if_neg (by clear hu;omega),if_neg (by clear hu;omega),if_pos (by clear hu;omega)]
        rw [hx] at hu
        simp only [] at hu
        rw [Yo (k':=i+1+1 - (at_+1)) by16] at hu
        exact ⟨(i+1+1,acc++[d.toNat],u50),⟨by omega,by omega,by simp;omega,hu⟩,by simp;omega,Yy Y (Xa by10) by6,by5⟩)
    refine Q7 ?_
    refine QbY ?_
    refine out_ttt Y Y Y Y (Yv _) by5 ⟨?_,Y⟩
    have hn:unesc d.toNat=none:=by unfold unesc;simp_all
    rw [hu,hn];rfl
   refine Q7 ?_
   refine QbY ?_
   refine out_ttt Y Y Y Y (Yv _) by5 ⟨?_,Y⟩
   rw [hu,hr,show b.toNat=92 by omega,rst_nil by16,tx_esc0];rfl
  refine Q7 ?_
  refine QbY ?_
  refine out_ttt Y Y Y Y (Yv _) by5 ⟨?_,Y⟩
  rw [hu,hr,show b.toNat=10 by omega,tx_10];rfl
 refine QaH ?_
 refine Zb 24 Y Y Y (op_bytestra (xs:=zi acc) Y tu_109 tu_5 tu_9 Y (.own _ 1 _) ?_)
 refine Qb ?_
 refine Qax ?_
 refine QbY ?_
 refine out_ttt Y Y Y Y (Yv _) by5 ⟨?_,Y⟩
 rw [hu,hr,show b.toNat=34 by omega,tx_end]
 simp [txR,strN,zi];omega
theorem u64w (x:Int):IntKind.u64.wrap x=x % 18446744073709551616:=by
 unfold IntKind.wrap
 simp [IntKind.bits,IntKind.signed]
theorem u8w (x:Int):IntKind.u8.wrap x=x % 256:=by
 unfold IntKind.wrap
 simp [IntKind.bits,IntKind.signed]
theorem SignedA_c (u:Int) (neg:Bool) (h1:0≤u) (h2:u≤9223372036854775807):PCall Try.prog 94 [.val (.int .u64 u),.val (.bool neg)] (.val (.int .i64 (W63 (sgn u neg)))) :=
 PCall.of_calls (vs:=[.int .u64 u,.bool neg]) (enters_of Try.func94 (by kernel_rfl) rfl) (fun w=>(Signed_c u neg w h1 h2).mono (by rintro e w' ⟨rfl,rfl⟩;exact ⟨rfl,Below.refl _ _⟩))
def parR:Option Nat→AV
 | none=>.tup [.val (.int .i64 0),.val (.int .i64 3)]
 | some n=>.tup [.val (.int .i64 n),.val (.int .i64 0)]
theorem parL_none {l:List Nat} (h:valO 0 l=none):parL l=none:=by unfold parL;rw [h]
theorem parL_half {l:List Nat} (h:valO 0 l=some 4611686018427387904):parL l=none:=by unfold parL;rw [h];rfl
theorem parL_some {l:List Nat} {n:Nat} (h:valO 0 l=some n) (hn:n≠4611686018427387904):parL l=some n:=by unfold parL;rw [h];simp only [if_neg hn]
theorem rParse_c (s:ByteArray) (hs:s.size≤60000) (h0:0<s.size) (hd:∀ (i:Nat) (b:UInt8),s[i]?=some b→48≤b.toNat∧b.toNat≤57) (hz:∀ b:UInt8,s[0]?=some b→b.toNat=48→s.size=1):PCall Try.prog 86 [.val (.string s)] (parR (parL (rst s 0))):=by
 obtain ⟨z,hz0,_,_⟩:=Ym h0
 have hz1:=hz z hz0
 have hz2:=hd 0 z hz0
 have HS:=SignedA_c
 refine Zc Try.func86 Y (by kernel_rfl) Y (Xb Y) ?_
 refine Qv ?_
 refine QaW ?_
 refine QE ?_
 refine Zt 4 (False) ?_ _ _ Y ?_
 ·skip
  refine Qb ?_
  refine Qcb ?_
  refine Q8 ?_;intro c11 h11
  refine Qb ?_
  obtain ⟨rfl,g11⟩|⟨rfl,g11⟩:=Za h11
  ·skip
   refine Qad ?_
   refine Qz ?_
   refine Yz Y ?_ by7 by5
   simp_all;done
  skip
  refine Qc ?_
  refine Qd6 ?_
  refine Qah ?_;intro c15 h15
  refine Qz ?_
  refine Yz Y ?_ by7 by5
  simp_all;omega
 intro c4 h4
 refine Qe ?_
 refine QC ?_
 refine QU ?_
 refine Qa ?_
 obtain ⟨rfl,g4⟩|⟨rfl,g4⟩:=Za h4
 ·refine QF ?_
  refine QK ?_
  refine Zt 37 (False) ?_ _ _ Y ?_
  ·skip
   refine QaF ?_
   refine Qcb ?_
   refine Qi ?_;intro c21 h21
   refine Qb ?_
   obtain ⟨rfl,g21⟩|⟨rfl,g21⟩:=Za h21
   ·skip
    refine QbP ?_
    refine Qd6 ?_
    refine Qah ?_;intro c26 h26
    refine Qc ?_
    obtain ⟨rfl,g26⟩|⟨rfl,g26⟩:=Za h26
    ·skip
     refine Qh ?_
     refine QZ ?_
     refine QcA ?_
     refine Qba ?_
     refine Qf ?_
     refine Yz Y ?_ by7 by5
     clear HS;first|(simp_all;done)|(simp_all;omega)|grind
    skip
    refine Qc ?_
    refine Qdg ?_
    refine Qc ?_
    refine Qd5 ?_
    refine Qcc ?_;intro c32 h32
    refine Qc ?_
    obtain ⟨rfl,g32⟩|⟨rfl,g32⟩:=Za h32
    ·skip
     refine Qc ?_
     refine QaO ?_
     refine Yz Y ?_ by7 by5
     clear HS;first|(simp_all;done)|(simp_all;omega)|grind
    skip
    refine Q1 ?_
    refine QaO ?_
    refine Yz Y ?_ by7 by5
    clear HS;first|(simp_all;done)|(simp_all;omega)|grind
   skip
   refine Qbi ?_
   refine QaL ?_
   refine QaL ?_
   refine Q1 ?_
   refine Qf ?_
   refine Yz Y ?_ by7 by5
   clear HS;first|(simp_all;done)|(simp_all;omega)|grind
  intro c37 h37
  refine Qe ?_
  obtain ⟨rfl,g37⟩|⟨rfl,g37⟩:=Za h37
  ·refine Qav ?_
   refine Qbj ?_
   apply Zw (rg [(1,3),(6,1),(9,46)]) (σ:=Nat) (fun zz=>match zz with|i=>[(6,.val (.int .i64 i))]) (fun zz=>match zz with|i=>i≤s.size) (fun zz=>match zz with|i=>s.size - i) (0)
   ·repeat' (first|exact Xe|apply Xc rfl|apply Xd rfl)
   ·exact Nat.zero_le _
   ·exact by6
   rintro i hI
   try dsimp only [List.cons_append,List.nil_append] at hI ⊢
   refine Qal ?_
   refine Qby ?_;intro c42 h42
   refine Qa ?_
   obtain ⟨rfl,g42⟩|⟨rfl,g42⟩:=Za h42
   ·refine Qar ?_
    refine QC ?_
    refine QU ?_
    refine Qbj ?_
    apply Zw (rg [(1,3),(5,67)]) (σ:=Nat × Nat) (fun zz=>match zz with|(j,n)=>[(7,.val (.int .u64 n)),(8,.val (.int .i64 j))]) (fun zz=>match zz with|(j,n)=>j≤s.size∧n≤4611686018427387904∧valO 0 (rst s 0)=valO n (rst s j)) (fun zz=>match zz with|(j,n)=>s.size - j) ((0,0))
    ·repeat' (first|exact Xe|apply Xc rfl|apply Xd rfl)
    ·exact ⟨Nat.zero_le _,by omega,Y⟩
    ·exact by6
    rintro ⟨j,n⟩ hI
    try dsimp only [List.cons_append,List.nil_append] at hI ⊢
    obtain ⟨hj,hn,hu⟩:=hI
    refine Qal ?_
    refine Qby ?_;intro c59 h59
    refine Qa ?_
    obtain ⟨rfl,g59⟩|⟨rfl,g59⟩:=Za h59
    ·refine QbS ?_
     refine Zt 77 (n=4611686018427387904) ?_ _ _ Y ?_
     ·skip
      refine QbU ?_;intro c73 h73
      refine Qb ?_
      obtain ⟨rfl,g73⟩|⟨rfl,g73⟩:=Za h73
      ·skip
       refine Qae ?_
       refine Yz Y ?_ by7 by5
       simp_all;omega
      skip
      refine Qc ?_
      refine QcG ?_;intro c76 h76
      try replace h76:=nott h76 h16
      refine Qf ?_
      refine Yz Y ?_ by7 by5
      simp_all;omega
     intro c77 h77
     refine Qe ?_
     obtain ⟨rfl,g77⟩|⟨rfl,g77⟩:=Za h77
     ·refine QF ?_
      refine QO ?_
      refine Zb 80 Y Y Y (Zd (xs:=[.tmp 78,.tmp 79]) Y Y (HS n false by16 by16) by3 ?_)
      refine Qbv ?_
      refine out_tt Y Y Y (Yv _) by5 ⟨?_,Y⟩
      rw [rst_nil (s:=s) (i:=j) by16,valO] at hu
      rw [parL_some hu g77,sgn,W63_id _ (by first|(simp;done)|(simp;omega)) (by first|(simp;done)|(simp;omega))];rfl
     refine Q7 ?_
     refine Qbv ?_
     refine out_tt Y Y Y (Yv _) by5 ⟨?_,Y⟩
     rw [rst_nil (s:=s) (i:=j) by16,valO,g77] at hu
     rw [parL_half hu];rfl
    refine QI ?_
    obtain ⟨b,hb,hr,_⟩:=Ym (s:=s) (i:=j) by16
    have hbd:=hd j b hb
    rw [hr,valO] at hu
    have hw:IntKind.u64.wrap (IntKind.u64.wrap (10 * (n:Int))+IntKind.u64.wrap (IntKind.u8.wrap ((b.toNat:Int) - 48)))=(((10 * n+(b.toNat - 48)) % 18446744073709551616:Nat):Int):=by
     rw [u64w,u64w,u64w,u8w];omega
    refine Qg ?_
    refine Zb 63 Y Y Y (op_mul Y Y Y Y ?_)
    refine QaF ?_
    refine Qcr ?_
    refine Zb 67 Y Y Y (op_sub Y Y Y Y (Zb 68 Y Y Y (op_convert Y tu_5 tu_108 Y Y (Zb 69 Y Y Y (op_add Y Y Y Y ?_)))))
    refine QaI ?_
    refine Q8 ?_;intro c71 h71
    refine Qa ?_
    obtain ⟨rfl,g71⟩|⟨rfl,g71⟩:=Za h71
    ·refine Qaz ?_
     rw [hw] at g71
     rw [if_neg by16] at hu
     exact ⟨(j+1,(10 * n+(b.toNat - 48)) % 18446744073709551616),⟨by omega,by omega,hu⟩,by simp;omega,Yy Y (Le.inteq hw) by6,by5⟩
    refine Q7 ?_
    refine Qbv ?_
    refine out_tt Y Y Y (Yv _) by5 ⟨?_,Y⟩
    rw [hw] at g71
    rw [if_pos by16] at hu
    rw [parL_none hu];rfl
   refine QI ?_
   obtain ⟨b,hb,_,_⟩:=Ym (s:=s) (i:=i) by16
   have hbd:=hd i b hb
   refine Zt 54 (False) ?_ _ _ Y ?_
   ·skip
    refine QaF ?_
    refine Qcr ?_
    refine Qm ?_;intro c48 h48
    refine Qb ?_
    obtain ⟨rfl,g48⟩|⟨rfl,g48⟩:=Za h48
    ·skip
     refine QbP ?_
     refine Zk 52 Y Y Y Y Y (Ye Y tu_9 Y Y Y (hb) ?_)
     refine Qcc ?_;intro c53 h53
     refine Qf ?_
     refine Yz Y ?_ by7 by5
     simp_all;omega
    skip
    refine Qh ?_
    refine Qf ?_
    refine Yz Y ?_ by7 by5
    simp_all;omega
   intro c54 h54
   refine Qe ?_
   obtain ⟨rfl,g54⟩|⟨rfl,g54⟩:=Za h54
   ·refine Qaz ?_
    exact ⟨i+1,(by show i+1≤s.size;omega),by simp;omega,by6,by5⟩
   exact g54.elim
  exact g37.elim
 exact g4.elim
theorem Zr {P:Program} {fn:Func} {R:AV→Mem→Prop} {al:Sl} {M M':Mem} {t1 t2 t T b s i:Nat} {cs:List AV} {v v2 v':AV} (hr:fn.results=#[.cell t T,.tmp t1,.tmp t2]) (h1:al.lookup t1=some v) (h2:al.lookup t2=some v2) (hv:al.lookup t=some (.ptr b 0)) (hm0:M[i]?=some (.loc b cs)) (ht:tyAgg P T=some (some s)) (hs:cs.length=s) (hl:Le (.tup [.agg cs,v,v2]) v') (hm:MLe M M') (h:R v' M'):Out P fn R .ret al M :=
 ⟨[.agg cs,v,v2],v',M',by rw [hr];exact .cons ⟨b,0,i,cs,hv,hm0,.inl ⟨s,ht,by rw [List.drop_zero,← hs,List.take_length],by omega⟩⟩ (.cons h1 (.cons h2 .nil)),hl,hm,h⟩
def Tok.av (t:Tok):List AV:=[.val (.int .i64 t.k),.val (.string t.t),.val (.int .i64 t.n),.val (.int .i64 t.a)]
def oneR (o:Tok × Int × Int):AV:=.tup [.agg o.1.av,.val (.int .i64 o.2.1),.val (.int .i64 o.2.2)]
theorem one_text (s:ByteArray) (hs:s.size≤60000) (at_:Nat) (ha:at_<s.size) (b:UInt8) (hb:s[at_]?=some b) (hq:b.toNat=34):PCall Try.prog 70 [.val (.string s),.val (.int .i64 at_)] (oneR (oneL at_ (b.toNat::rst s (at_+1)))):=by
 have HT:=text_c s hs at_ ha
 have hO:oneL at_ (b.toNat::rst s (at_+1))=match txL (rst s (at_+1)) with
     | none=>(tok0 at_,0,103)
     | some x=>(⟨4,strN x.1,0,at_⟩,at_+1+x.2,0):=by (rw [oneL,if_pos hq]) <;>(cases txL (rst s (at_+1)) <;> rfl)
 rw [hO]
 cases hx:txL (rst s (at_+1)) with
 | none =>
  rw [hx] at HT
  simp only [txR] at HT
  refine QcZ ?_
  refine Qv ?_
  refine QB ?_;intro b4
  refine QaW ?_
  refine QO ?_
  refine Qcr ?_
  refine QaI ?_
  refine Qc0 ?_
  refine QB ?_;intro b8
  refine QbA ?_
  refine Qi ?_;intro c23 h23
  refine Qa ?_
  obtain ⟨rfl,g23⟩|⟨rfl,g23⟩:=Za h23
  ·omega
  refine Qk ?_
  refine QO ?_
  refine Zb 27 Y Y Y (Zd (xs:=[.tmp 25,.tmp 26]) Y Y (HT) by3 ?_)
  refine Qbc ?_
  refine Qcl ?_
  refine QaR ?_
  refine QbZ ?_
  refine Qab ?_;intro c32 h32
  try replace h32:=nott h32 h30
  refine Qa ?_
  obtain ⟨rfl,g32⟩|⟨rfl,g32⟩:=Za h32
  ·simp_all
  refine Q7 ?_
  refine Qbm ?_
  refine QbH ?_
  refine Qbv ?_
  first|exact Zr (i:=1) rfl rfl rfl rfl rfl Zv rfl (Yv _) by5 ⟨rfl,rfl⟩|exact Zr (i:=0) rfl rfl rfl rfl rfl Zv rfl (Yv _) by5 ⟨rfl,rfl⟩
 | some r =>
  rw [hx] at HT
  simp only [txR] at HT
  refine QcZ ?_
  refine Qv ?_
  refine QB ?_;intro b4
  refine QaW ?_
  refine QO ?_
  refine Qcr ?_
  refine QaI ?_
  refine Qc0 ?_
  refine QB ?_;intro b8
  refine QbA ?_
  refine Qi ?_;intro c23 h23
  refine Qa ?_
  obtain ⟨rfl,g23⟩|⟨rfl,g23⟩:=Za h23
  ·omega
  refine Qk ?_
  refine QO ?_
  refine Zb 27 Y Y Y (Zd (xs:=[.tmp 25,.tmp 26]) Y Y (HT) by3 ?_)
  refine Qbc ?_
  refine Qcl ?_
  refine QaR ?_
  refine QbZ ?_
  refine Qab ?_;intro c32 h32
  try replace h32:=nott h32 h30
  refine Qa ?_
  obtain ⟨rfl,g32⟩|⟨rfl,g32⟩:=Za h32
  ·refine QF ?_
   refine QbN ?_
   refine Qc7 ?_
   refine Qq ?_
   refine Qx ?_
   refine Qdx ?_
   refine QbB ?_
   first|exact Zr (i:=1) rfl rfl rfl rfl rfl Zv rfl (Yv _) by5 ⟨rfl,rfl⟩|exact Zr (i:=0) rfl rfl rfl rfl rfl Zv rfl (Yv _) by5 ⟨rfl,rfl⟩
  simp_all
def nameO (a:Int) (c k:Nat) (w:ByteArray):Tok × Int × Int:=if 40<k then (⟨0,w,0,a⟩,0,104) else (⟨kindT c w,w,0,a⟩,a+k,0)
theorem oneL_A {a:Int} {c:Nat} {r:List Nat} (h1:c≠34) (h2:¬ digitC c=true) (h3:smallC c=true∨greatC c=true):oneL a (c::r)=nameO a c (run 1 (c::r)) (strN ((c::r).take (run 1 (c::r)))):=by
 rw [oneL,if_neg h1,if_neg h2]
 simp only [if_pos h3]
 rw [if_neg (by rintro ⟨q,_⟩;exact q (h3.elim .inl fun x=>.inr (.inl x)))];rfl
theorem oneL_B {a:Int} {c:Nat} {r:List Nat} (h1:c≠34) (h2:¬ digitC c=true) (h3:¬ (smallC c=true∨greatC c=true)) (h4:signC c=true):oneL a (c::r)=nameO a c (run 3 (c::r)) (strN ((c::r).take (run 3 (c::r)))):=by
 rw [oneL,if_neg h1,if_neg h2]
 simp only [if_neg h3,if_pos h4]
 rw [if_neg (by rintro ⟨q,_⟩;exact q (.inr (.inr h4)))];rfl
theorem oneL_C {a:Int} {c:Nat} {r:List Nat} (h1:c≠34) (h2:¬ digitC c=true) (h3:¬ (smallC c=true∨greatC c=true)) (h4:¬ signC c=true):oneL a (c::r)=if markT (strN ((c::r).take 1))=false then (tok0 a,0,101) else nameO a c 1 (strN ((c::r).take 1)):=by
 rw [oneL,if_neg h1,if_neg h2]
 simp only [if_neg h3,if_neg h4]
 by_cases q:markT (strN ((c::r).take 1))=false
 ·rw [if_pos ⟨by rintro (x|x|x);exact h3 (.inl x);exact h3 (.inr x);exact h4 x,q⟩,if_pos q]
 rw [if_neg (fun x=>q x.2),if_neg q];rfl
theorem run_pos {k c:Nat} {l:List Nat} (h:kindC k c=true):1≤run k (c::l):=by rw [run,if_pos h];omega
theorem one_N (s:ByteArray) (hs:s.size≤60000) (at_:Nat) (ha:at_<s.size) (b:UInt8) (hb:s[at_]?=some b) (h1:b.toNat≠34) (h2:¬ digitC b.toNat=true):PCall Try.prog 70 [.val (.string s),.val (.int .i64 at_)] (oneR (oneL at_ (rst s at_))):=by
 obtain ⟨b',hb',hr,_⟩:=Ym ha
 obtain rfl:b'=b:=by rw [hb] at hb';cases hb';rfl
 have HE1:=end_c s hs at_ 1 by16 by16 by16
 have HE3:=end_c s hs at_ 3 by16 by16 by16
 have HD:=digit_c
 have HSm:=small_c
 have HG:=great_c
 have HS:=sign_c
 have HM:=Mark_c
 have HKy:=Key_c
 have hcut:=fun k=>rst_cut s at_ (at_+k)
 simp only [Nat.add_sub_cancel_left] at hcut
 have hA:(smallC b'.toNat=true∨greatC b'.toNat=true)→oneL at_ (rst s at_)=nameO at_ b'.toNat (run 1 (rst s at_)) (s.extract at_ (at_+run 1 (rst s at_)))∧1≤run 1 (rst s at_):=fun hc=>by rw [hcut,hr];exact ⟨oneL_A h1 h2 hc,run_pos (by show nameC _=true;unfold nameC;rcases hc with hc|hc <;> rw [hc] <;> simp)⟩
 have hB:¬ (smallC b'.toNat=true∨greatC b'.toNat=true)→signC b'.toNat=true→oneL at_ (rst s at_)=nameO at_ b'.toNat (run 3 (rst s at_)) (s.extract at_ (at_+run 3 (rst s at_)))∧1≤run 3 (rst s at_):=fun hc hd=>by rw [hcut,hr];exact ⟨oneL_B h1 h2 hc hd,run_pos hd⟩
 have hC:¬ (smallC b'.toNat=true∨greatC b'.toNat=true)→¬ signC b'.toNat=true→oneL at_ (rst s at_)=if markT (s.extract at_ (at_+1))=false then (tok0 at_,0,101) else nameO at_ b'.toNat 1 (s.extract at_ (at_+1)):=fun hc hd=>by rw [hcut,hr];exact oneL_C h1 h2 hc hd
 have hle1:=run_le 1 (rst s at_)
 have hle3:=run_le 3 (rst s at_)
 rw [rst_len] at hle1 hle3
 generalize oneL at_ (rst s at_)=O at *
 generalize run 1 (rst s at_)=k1 at *
 generalize run 3 (rst s at_)=k3 at *
 refine QcZ ?_
 refine Qv ?_
 refine QB ?_;intro b4
 refine QaW ?_
 refine QO ?_
 refine Qdy ?_
 refine QaI ?_
 refine Qc0 ?_
 refine QB ?_;intro b8
 refine QbA ?_
 refine Qi ?_;intro c23 h23
 refine Qa ?_
 obtain ⟨rfl,g23⟩|⟨rfl,g23⟩:=Za h23
 ·refine Qav ?_
  refine Zb 40 Y Y Y (Zj (xs:=[.tmp 39]) Y Y (HD _) by3 ?_);intro c40 h40
  refine Qa ?_
  obtain ⟨rfl,g40⟩|⟨rfl,g40⟩:=Za h40
  ·refine Q3 ?_
   refine Qax ?_
   refine Qbx ?_
   refine Zt 85 (smallC b'.toNat=true∨greatC b'.toNat=true) ?_ _ _ Y ?_
   ·skip
    refine Qb ?_
    refine Zb 81 Y Y Y (Zj (xs:=[.tmp 80]) Y Y (HSm _) by3 ?_);intro c81 h81
    refine Qb ?_
    obtain ⟨rfl,g81⟩|⟨rfl,g81⟩:=Za h81
    ·skip
     refine Qc ?_
     refine Zk 84 Y Y Y Y Y (Zj (xs:=[.tmp 83]) Y Y (HG _) by3 ?_);intro c84 h84
     refine Qf ?_
     refine Yz Y ?_ by7 by5
     simp_all;done
    skip
    refine Qae ?_
    refine Yz Y ?_ by7 by5
    simp_all;done
   intro c85 h85
   refine Qe ?_
   apply c_joinkm (rg [(2,2),(5,2),(9,75),(85,16)]) (σ:=Nat) (fun zz=>match zz with|k=>[(16,.val (.int .i64 (at_+k)))]) (fun zz=>match zz with|k=>1≤k∧at_+k≤s.size∧O=nameO at_ b'.toNat k (s.extract at_ (at_+k)))
   ·repeat' (first|exact Xe|apply Xc rfl|apply Xd rfl)
   ·skip
    obtain ⟨rfl,g85⟩|⟨rfl,g85⟩:=Za h85
    ·refine QP ?_
     refine Qs ?_
     refine Zb 90 Y Y Y (Zj (xs:=[.tmp 89]) Y Y (HS _) by3 ?_);intro c90 h90
     refine Qa ?_
     obtain ⟨rfl,g90⟩|⟨rfl,g90⟩:=Za h90
     ·refine QP ?_
      refine QO ?_
      refine Qb ?_
      refine Zb 97 rfl rfl rfl (op_substr rfl tu_9 rfl rfl rfl (i:=at_) (j:=at_+1) rfl by16 by16 by16 ?_)
      refine Zb 98 Y Y Y (Zj (xs:=[.tmp 97]) Y Y (HM _) by3 ?_);intro c98 h98
      refine Qab ?_;intro c99 h99
      try replace h99:=nott h99 h98
      refine Qa ?_
      obtain ⟨rfl,g99⟩|⟨rfl,g99⟩:=Za h99
      ·refine QbX ?_
       first|exact ⟨k1,⟨(hA g85).2,by omega,(hA g85).1⟩,by6,by5⟩|exact ⟨k3,⟨(hB g85 g90).2,by omega,(hB g85 g90).1⟩,by6,by5⟩|exact ⟨1,⟨by omega,by omega,by rw [hC g85 g90,if_neg (by simpa using g99)]⟩,by6,by5⟩
      refine Q7 ?_
      refine Qbm ?_
      refine QbH ?_
      refine QaW ?_
      refine c_retj ?_
      first|refine Zr (i:=1) Y Y Y Y Y Zv Y (Yv _) by5 ⟨?_,Y⟩|refine Zr (i:=0) Y Y Y Y Y Zv Y (Yv _) by5 ⟨?_,Y⟩
      rw [hC g85 g90,if_pos (by simpa using g99)];rfl
     refine Qk ?_
     refine QJ ?_
     refine Zb 93 Y Y Y (Zd (xs:=[.tmp 91,.tmp 92,.const (.int .i64 3)]) Y Y (HE3) by3 ?_)
     refine Qaj ?_
     first|exact ⟨k1,⟨(hA g85).2,by omega,(hA g85).1⟩,by6,by5⟩|exact ⟨k3,⟨(hB g85 g90).2,by omega,(hB g85 g90).1⟩,by6,by5⟩|exact ⟨1,⟨by omega,by omega,by rw [hC g85 g90,if_neg (by simpa using g99)]⟩,by6,by5⟩
    refine Qk ?_
    refine QJ ?_
    refine Zb 88 Y Y Y (Zd (xs:=[.tmp 86,.tmp 87,.const (.int .i64 1)]) Y Y (HE1) by3 ?_)
    refine Qaj ?_
    first|exact ⟨k1,⟨(hA g85).2,by omega,(hA g85).1⟩,by6,by5⟩|exact ⟨k3,⟨(hB g85 g90).2,by omega,(hB g85 g90).1⟩,by6,by5⟩|exact ⟨1,⟨by omega,by omega,by rw [hC g85 g90,if_neg (by simpa using g99)]⟩,by6,by5⟩
   rintro k hI
   try dsimp only [List.cons_append,List.nil_append] at hI ⊢
   obtain ⟨hk1,hk2,hO⟩:=hI
   have hsz:(s.extract at_ (at_+k)).size=k:=by simp [ByteArray.size_extract];omega
   generalize hw:s.extract at_ (at_+k)=w at *
   refine Qe ?_
   refine QO ?_
   refine Qb ?_
   refine Zb 104 rfl rfl rfl (op_substr rfl tu_9 rfl rfl rfl (i:=at_) (j:=at_+k) rfl rfl by16 by16 ?_)
   refine Qx ?_
   refine Qdx ?_
   refine Qa ?_
   refine QK ?_
   rw [hw]
   refine Qbw ?_
   refine Qca ?_
   refine Qcb ?_
   refine Q8 ?_;intro c109 h109
   refine Qa ?_
   obtain ⟨rfl,g109⟩|⟨rfl,g109⟩:=Za h109
   ·refine QF ?_
    refine QbN ?_
    refine Qc7 ?_
    refine Q2 ?_
    refine Zb 113 Y Y Y (Zj (xs:=[.tmp 112]) Y Y (HG _) by3 ?_);intro c113 h113
    refine Qa ?_
    obtain ⟨rfl,g113⟩|⟨rfl,g113⟩:=Za h113
    ·refine Qav ?_
     refine Zb 116 Y Y Y (Zj (xs:=[.tmp 115]) Y Y (HS _) by3 ?_);intro c116 h116
     refine Qa ?_
     obtain ⟨rfl,g116⟩|⟨rfl,g116⟩:=Za h116
     ·refine Qt ?_
      refine Qag ?_
      refine Zb 120 Y Y Y (Zj (xs:=[.tmp 119]) Y Y (HKy _) by3 ?_);intro c120 h120
      refine Qa ?_
      obtain ⟨rfl,g120⟩|⟨rfl,g120⟩:=Za h120
      ·refine Qt ?_
       refine Qag ?_
       refine Zb 124 Y Y Y (Zj (xs:=[.tmp 123]) Y Y (HM _) by3 ?_);intro c124 h124
       refine Qa ?_
       obtain ⟨rfl,g124⟩|⟨rfl,g124⟩:=Za h124
       ·refine Qb0 ?_
        refine QbO ?_
        first|refine Zr (i:=1) Y Y Y Y Y Zv Y (Yv _) by5 ⟨?_,Y⟩|refine Zr (i:=0) Y Y Y Y Y Zv Y (Yv _) by5 ⟨?_,Y⟩
        rw [hO,nameO,if_neg by11]
        simp [oneR,Tok.av,kindT,g113,g116,g120,g124];done
       refine QaJ ?_
       refine QbB ?_
       first|refine Zr (i:=1) Y Y Y Y Y Zv Y (Yv _) by5 ⟨?_,Y⟩|refine Zr (i:=0) Y Y Y Y Y Zv Y (Yv _) by5 ⟨?_,Y⟩
       rw [hO,nameO,if_neg by11]
       simp [oneR,Tok.av,kindT,g124];done
      refine QaJ ?_
      refine QbC ?_
      refine Zb 124 Y Y Y (Zj (xs:=[.tmp 123]) Y Y (HM _) by3 ?_);intro c124 h124
      refine Qa ?_
      obtain ⟨rfl,g124⟩|⟨rfl,g124⟩:=Za h124
      ·refine Qb0 ?_
       refine QbO ?_
       first|refine Zr (i:=1) Y Y Y Y Y Zv Y (Yv _) by5 ⟨?_,Y⟩|refine Zr (i:=0) Y Y Y Y Y Zv Y (Yv _) by5 ⟨?_,Y⟩
       rw [hO,nameO,if_neg by11]
       simp [oneR,Tok.av,kindT,g120,g124];done
      refine QaJ ?_
      refine QbB ?_
      first|refine Zr (i:=1) Y Y Y Y Y Zv Y (Yv _) by5 ⟨?_,Y⟩|refine Zr (i:=0) Y Y Y Y Y Zv Y (Yv _) by5 ⟨?_,Y⟩
      rw [hO,nameO,if_neg by11]
      simp [oneR,Tok.av,kindT,g124];done
     refine QaJ ?_
     refine QbC ?_
     refine Zb 120 Y Y Y (Zj (xs:=[.tmp 119]) Y Y (HKy _) by3 ?_);intro c120 h120
     refine Qa ?_
     obtain ⟨rfl,g120⟩|⟨rfl,g120⟩:=Za h120
     ·refine Qt ?_
      refine Qag ?_
      refine Zb 124 Y Y Y (Zj (xs:=[.tmp 123]) Y Y (HM _) by3 ?_);intro c124 h124
      refine Qa ?_
      obtain ⟨rfl,g124⟩|⟨rfl,g124⟩:=Za h124
      ·refine Qb0 ?_
       refine QbO ?_
       first|refine Zr (i:=1) Y Y Y Y Y Zv Y (Yv _) by5 ⟨?_,Y⟩|refine Zr (i:=0) Y Y Y Y Y Zv Y (Yv _) by5 ⟨?_,Y⟩
       rw [hO,nameO,if_neg by11]
       simp [oneR,Tok.av,kindT,g116,g120,g124];done
      refine QaJ ?_
      refine QbB ?_
      first|refine Zr (i:=1) Y Y Y Y Y Zv Y (Yv _) by5 ⟨?_,Y⟩|refine Zr (i:=0) Y Y Y Y Y Zv Y (Yv _) by5 ⟨?_,Y⟩
      rw [hO,nameO,if_neg by11]
      simp [oneR,Tok.av,kindT,g124];done
     refine QaJ ?_
     refine QbC ?_
     refine Zb 124 Y Y Y (Zj (xs:=[.tmp 123]) Y Y (HM _) by3 ?_);intro c124 h124
     refine Qa ?_
     obtain ⟨rfl,g124⟩|⟨rfl,g124⟩:=Za h124
     ·refine Qb0 ?_
      refine QbO ?_
      first|refine Zr (i:=1) Y Y Y Y Y Zv Y (Yv _) by5 ⟨?_,Y⟩|refine Zr (i:=0) Y Y Y Y Y Zv Y (Yv _) by5 ⟨?_,Y⟩
      rw [hO,nameO,if_neg by11]
      simp [oneR,Tok.av,kindT,g120,g124];done
     refine QaJ ?_
     refine QbB ?_
     first|refine Zr (i:=1) Y Y Y Y Y Zv Y (Yv _) by5 ⟨?_,Y⟩|refine Zr (i:=0) Y Y Y Y Y Zv Y (Yv _) by5 ⟨?_,Y⟩
     rw [hO,nameO,if_neg by11]
     simp [oneR,Tok.av,kindT,g124];done
    refine QaJ ?_
    refine Q2 ?_
    refine Zb 116 Y Y Y (Zj (xs:=[.tmp 115]) Y Y (HS _) by3 ?_);intro c116 h116
    refine Qa ?_
    obtain ⟨rfl,g116⟩|⟨rfl,g116⟩:=Za h116
    ·refine Qt ?_
     refine Qag ?_
     refine Zb 120 Y Y Y (Zj (xs:=[.tmp 119]) Y Y (HKy _) by3 ?_);intro c120 h120
     refine Qa ?_
     obtain ⟨rfl,g120⟩|⟨rfl,g120⟩:=Za h120
     ·refine Qt ?_
      refine Qag ?_
      refine Zb 124 Y Y Y (Zj (xs:=[.tmp 123]) Y Y (HM _) by3 ?_);intro c124 h124
      refine Qa ?_
      obtain ⟨rfl,g124⟩|⟨rfl,g124⟩:=Za h124
      ·refine Qb0 ?_
       refine QbO ?_
       first|refine Zr (i:=1) Y Y Y Y Y Zv Y (Yv _) by5 ⟨?_,Y⟩|refine Zr (i:=0) Y Y Y Y Y Zv Y (Yv _) by5 ⟨?_,Y⟩
       rw [hO,nameO,if_neg by11]
       simp [oneR,Tok.av,kindT,g113,g116,g120,g124];done
      refine QaJ ?_
      refine QbB ?_
      first|refine Zr (i:=1) Y Y Y Y Y Zv Y (Yv _) by5 ⟨?_,Y⟩|refine Zr (i:=0) Y Y Y Y Y Zv Y (Yv _) by5 ⟨?_,Y⟩
      rw [hO,nameO,if_neg by11]
      simp [oneR,Tok.av,kindT,g124];done
     refine QaJ ?_
     refine QbC ?_
     refine Zb 124 Y Y Y (Zj (xs:=[.tmp 123]) Y Y (HM _) by3 ?_);intro c124 h124
     refine Qa ?_
     obtain ⟨rfl,g124⟩|⟨rfl,g124⟩:=Za h124
     ·refine Qb0 ?_
      refine QbO ?_
      first|refine Zr (i:=1) Y Y Y Y Y Zv Y (Yv _) by5 ⟨?_,Y⟩|refine Zr (i:=0) Y Y Y Y Y Zv Y (Yv _) by5 ⟨?_,Y⟩
      rw [hO,nameO,if_neg by11]
      simp [oneR,Tok.av,kindT,g120,g124];done
     refine QaJ ?_
     refine QbB ?_
     first|refine Zr (i:=1) Y Y Y Y Y Zv Y (Yv _) by5 ⟨?_,Y⟩|refine Zr (i:=0) Y Y Y Y Y Zv Y (Yv _) by5 ⟨?_,Y⟩
     rw [hO,nameO,if_neg by11]
     simp [oneR,Tok.av,kindT,g124];done
    refine QaJ ?_
    refine QbC ?_
    refine Zb 120 Y Y Y (Zj (xs:=[.tmp 119]) Y Y (HKy _) by3 ?_);intro c120 h120
    refine Qa ?_
    obtain ⟨rfl,g120⟩|⟨rfl,g120⟩:=Za h120
    ·refine Qt ?_
     refine Qag ?_
     refine Zb 124 Y Y Y (Zj (xs:=[.tmp 123]) Y Y (HM _) by3 ?_);intro c124 h124
     refine Qa ?_
     obtain ⟨rfl,g124⟩|⟨rfl,g124⟩:=Za h124
     ·refine Qb0 ?_
      refine QbO ?_
      first|refine Zr (i:=1) Y Y Y Y Y Zv Y (Yv _) by5 ⟨?_,Y⟩|refine Zr (i:=0) Y Y Y Y Y Zv Y (Yv _) by5 ⟨?_,Y⟩
      rw [hO,nameO,if_neg by11]
      simp [oneR,Tok.av,kindT,g116,g120,g124];done
     refine QaJ ?_
     refine QbB ?_
     first|refine Zr (i:=1) Y Y Y Y Y Zv Y (Yv _) by5 ⟨?_,Y⟩|refine Zr (i:=0) Y Y Y Y Y Zv Y (Yv _) by5 ⟨?_,Y⟩
     rw [hO,nameO,if_neg by11]
     simp [oneR,Tok.av,kindT,g124];done
    refine QaJ ?_
    refine QbC ?_
    refine Zb 124 Y Y Y (Zj (xs:=[.tmp 123]) Y Y (HM _) by3 ?_);intro c124 h124
    refine Qa ?_
    obtain ⟨rfl,g124⟩|⟨rfl,g124⟩:=Za h124
    ·refine Qb0 ?_
     refine QbO ?_
     first|refine Zr (i:=1) Y Y Y Y Y Zv Y (Yv _) by5 ⟨?_,Y⟩|refine Zr (i:=0) Y Y Y Y Y Zv Y (Yv _) by5 ⟨?_,Y⟩
     rw [hO,nameO,if_neg by11]
     simp [oneR,Tok.av,kindT,g120,g124];done
    refine QaJ ?_
    refine QbB ?_
    first|refine Zr (i:=1) Y Y Y Y Y Zv Y (Yv _) by5 ⟨?_,Y⟩|refine Zr (i:=0) Y Y Y Y Y Zv Y (Yv _) by5 ⟨?_,Y⟩
    rw [hO,nameO,if_neg by11]
    simp [oneR,Tok.av,kindT,g124];done
   refine Q7 ?_
   refine Qbm ?_
   refine QbH ?_
   refine Qbv ?_
   first|refine Zr (i:=1) Y Y Y Y Y Zv Y (Yv _) by5 ⟨?_,Y⟩|refine Zr (i:=0) Y Y Y Y Y Zv Y (Yv _) by5 ⟨?_,Y⟩
   rw [hO,nameO,if_pos by11];rfl
  exact absurd g40 h2
 omega
def mid (s:ByteArray) (f n:Nat):List Nat:=(rst s f).take (n - f)
theorem mid_cons {s:ByteArray} {f n:Nat} {b:Nat} (hf:f<n) (hr:rst s f=b::rst s (f+1)):mid s f n=b::mid s (f+1) n:=by
 unfold mid;rw [hr,show n - f=(n - (f+1))+1 by omega,List.take_succ_cons]
theorem mid_len (s:ByteArray) (f n:Nat) (h:n≤s.size):(mid s f n).length=n - f:=by unfold mid;rw [List.length_take,rst_len];omega
theorem mid_drop (s:ByteArray) (f n z:Nat):(mid s f n).drop z=mid s (f+z) n:=by
 unfold mid;rw [List.drop_take,rst_drop,show n - f - z=n - (f+z) by omega]
theorem run_all (k:Nat):∀ l:List Nat,∀ x∈l.take (run k l),kindC k x=true
 | [],x,hx=>by simp at hx
 | c::l,x,hx=>by
  unfold run at hx
  by_cases q:kindC k c=true
  ·rw [if_pos q,List.take_succ_cons] at hx
   rcases List.mem_cons.1 hx with rfl|hx
   ·exact q
   exact run_all k l x hx
  rw [if_neg q] at hx;simp at hx
theorem zeros_48 {l:List Nat} (h:l≠[]):zeros (48::l)=zeros l+1:=by rw [zeros,if_pos ⟨rfl,h⟩]
theorem zeros_no {c:Nat} {l:List Nat} (h:¬ (c=48∧l≠[])):zeros (c::l)=0:=by rw [zeros,if_neg h]
theorem bytes_ext (s:ByteArray) (f n:Nat):rst (s.extract f n) 0=mid s f n:=by
 unfold rst
 rw [List.drop_zero,rst_cut s f n,bytesN_strN _ (fun x hx=>rst_lt s f x (List.mem_of_mem_take hx))];rfl
theorem parse_mid (s:ByteArray) (hs:s.size≤60000) (f n:Nat) (hn:n≤s.size) (hf:f<n) (hd:∀ x∈mid s f n,48≤x∧x≤57) (hz:∀ l,mid s f n=48::l→l=[]):PCall Try.prog 86 [.val (.string (s.extract f n))] (parR (parL (mid s f n))):=by
 have hsz:(s.extract f n).size=n - f:=by simp [ByteArray.size_extract];omega
 have hb:=bytes_ext s f n
 have hmem:∀ (i:Nat) (b:UInt8),(s.extract f n)[i]?=some b→i<(s.extract f n).size∧b.toNat∈mid s f n∧(i=0→∃ l,mid s f n=b.toNat::l∧l.length+1=n - f):=by
  intro i b h
  have hi:i<(s.extract f n).size:=by
   rcases Nat.lt_or_ge i (s.extract f n).size with q|q
   ·exact q
   rw [getElem?_neg (s.extract f n) i (Nat.not_lt.2 q)] at h;cases h
  obtain ⟨b',h1,h2,_⟩:=Ym hi
  rw [h] at h1;cases h1
  refine ⟨hi,?_,?_⟩
  ·have:b.toNat∈rst (s.extract f n) i:=by rw [h2];exact List.mem_cons_self
   rw [← hb];unfold rst;rw [List.drop_zero];exact List.mem_of_mem_drop this
  rintro rfl
  rw [hb] at h2
  refine ⟨_,h2,?_⟩
  have:=mid_len s f n hn
  rw [h2] at this
  simpa using this
 have H:=rParse_c (s.extract f n) by16 by16 (fun i b h=>hd _ (hmem i b h).2.1) (fun b h h48=>by
  obtain ⟨l,hl,hle⟩:=(hmem 0 b h).2.2 rfl
  rw [h48] at hl
  rw [hz l hl] at hle
  simp at hle;omega)
 rw [hb] at H
 exact H
def digO (a:Int) (k:Nat) (z:List Nat):Tok × Int × Int:=match parL z with
 | none=>(tok0 a,0,102)
 | some v=>(⟨3,strN z,v,a⟩,a+k,0)
theorem oneL_D {a:Int} {c:Nat} {r:List Nat} (h1:c≠34) (h2:digitC c=true):oneL a (c::r)=digO a (run 2 (c::r)) (((c::r).take (run 2 (c::r))).drop (zeros ((c::r).take (run 2 (c::r))))):=by
 rw [oneL,if_neg h1,if_pos h2]
 dsimp only [digO]
 cases parL (((c::r).take (run 2 (c::r))).drop (zeros ((c::r).take (run 2 (c::r))))) <;> rfl
theorem zeros_lt:∀ l:List Nat,l≠[]→zeros l<l.length
 | [],h=>absurd rfl h
 | c::l,_=>by
  unfold zeros
  by_cases q:c=48∧l≠[]
  ·rw [if_pos q];have:=zeros_lt l q.2;simp;omega
  rw [if_neg q];simp
theorem zeros_head:∀ l m:List Nat,l.drop (zeros l)=48::m→m=[]
 | [],m,h=>by simp at h
 | c::l,m,h=>by
  unfold zeros at h
  by_cases q:c=48∧l≠[]
  ·rw [if_pos q] at h;exact zeros_head l m (by simpa using h)
  rw [if_neg q] at h
  simp at h
  obtain ⟨rfl,rfl⟩:=h
  exact Classical.byContradiction fun e=>q ⟨Y,e⟩
theorem one_digit (s:ByteArray) (hs:s.size≤60000) (at_:Nat) (ha:at_<s.size) (b:UInt8) (hb:s[at_]?=some b) (h2:digitC b.toNat=true):PCall Try.prog 70 [.val (.string s),.val (.int .i64 at_)] (oneR (oneL at_ (rst s at_))):=by
 obtain ⟨b',hb',hr,_⟩:=Ym ha
 obtain rfl:b'=b:=by rw [hb] at hb';cases hb';rfl
 have h1:b'.toNat≠34:=by have:=(digitC_iff _).1 h2;omega
 have HE:=end_c s hs at_ 2 by16 by16 by16
 have HD:=digit_c
 have hle:=run_le 2 (rst s at_)
 rw [rst_len] at hle
 have hk1:1≤run 2 (rst s at_):=by rw [hr];exact run_pos h2
 have hall:=run_all 2 (rst s at_)
 have hD:=oneL_D (a:=at_) (r:=rst s (at_+1)) h1 h2
 rw [← hr] at hD
 obtain ⟨n,hn⟩:∃ n,n=at_+run 2 (rst s at_):=⟨_,rfl⟩
 have hm:(rst s at_).take (run 2 (rst s at_))=mid s at_ n:=by unfold mid;rw [hn,show at_+run 2 (rst s at_) - at_=run 2 (rst s at_) by omega]
 have hns:n≤s.size:=by omega
 have hml:=mid_len s at_ n hns
 have hzl:=zeros_lt (mid s at_ n) (fun e=>by rw [e] at hml;simp at hml;omega)
 rw [hm] at hall
 rw [hm,mid_drop] at hD
 have hzh:=zeros_head (mid s at_ n)
 rw [mid_drop] at hzh
 have hk:((run 2 (rst s at_):Nat):Int)=n - at_:=by omega
 rw [← hn] at HE
 obtain ⟨F,hFF⟩:∃ F,at_+zeros (mid s at_ n)=F:=⟨_,rfl⟩
 rw [hFF] at hzh hD
 have hFn:F<n:=by omega
 have HP:=parse_mid s hs F n hns hFn (fun x hx=>by
  have hx2:x∈mid s at_ n:=by
   rw [show mid s F n=(mid s at_ n).drop (zeros (mid s at_ n)) by rw [mid_drop,hFF]] at hx
   exact List.mem_of_mem_drop hx
  have:=hall x hx2
  exact (digitC_iff x).1 this) hzh
 have hO:oneL at_ (rst s at_)=match parL (mid s F n) with
     | none=>(tok0 at_,0,102)
     | some v=>(⟨3,s.extract F n,v,at_⟩,n,0):=by
  rw [hD,digO,show strN (mid s F n)=s.extract F n from (rst_cut s F n).symm]
  cases parL (mid s F n) with
  | none=>rfl
  | some v=>simp only [];congr 2;omega
 clear hD hall hm hk hle hk1
 cases hp:parL (mid s F n) with
 | none =>
  rw [hp] at HP hO
  simp only [parR] at HP hO
  refine QcZ ?_
  refine Qv ?_
  refine QB ?_;intro b4
  refine QaW ?_
  refine QO ?_
  refine Qdy ?_
  refine QaI ?_
  refine Qc0 ?_
  refine QB ?_;intro b8
  refine QbA ?_
  refine Qi ?_;intro c23 h23
  refine Qa ?_
  obtain ⟨rfl,g23⟩|⟨rfl,g23⟩:=Za h23
  ·refine Qav ?_
   refine Zb 40 Y Y Y (Zj (xs:=[.tmp 39]) Y Y (HD _) by3 ?_);intro c40 h40
   refine Qa ?_
   obtain ⟨rfl,g40⟩|⟨rfl,g40⟩:=Za h40
   ·exact absurd h2 g40
   refine Qk ?_
   refine QO ?_
   refine Zb 43 Y Y Y (Zd (xs:=[.tmp 41,.tmp 42,.const (.int .i64 2)]) Y Y (HE) by3 ?_)
   refine QaI ?_
   refine Qd ?_
   refine Qa7 ?_
   apply Zw (rg [(2,2),(9,3),(13,1),(17,40)]) (σ:=Nat) (fun zz=>match zz with|f=>[(13,.val (.int .i64 f))]) (fun zz=>match zz with|f=>at_≤f∧f+1≤n∧zeros (mid s at_ n)=f - at_+zeros (mid s f n)) (fun zz=>match zz with|f=>n - f) (at_)
   ·repeat' (first|exact Xe|apply Xc rfl|apply Xd rfl)
   ·exact ⟨Nat.le_refl _,by omega,by simp⟩
   ·exact by6
   rintro f hI
   try dsimp only [List.cons_append,List.nil_append] at hI ⊢
   obtain ⟨hf1,hf2,hz⟩:=hI
   refine QK ?_
   obtain ⟨d,hd,hrd,hdl⟩:=Ym (s:=s) (i:=f) by16
   have hmc:=mid_cons (n:=n) by16 hrd
   refine Zt 54 (f+1<n∧d.toNat=48) ?_ _ _ Y ?_
   ·skip
    refine QaF ?_
    refine QT ?_
    refine Qm ?_;intro c48 h48
    refine Qb ?_
    obtain ⟨rfl,g48⟩|⟨rfl,g48⟩:=Za h48
    ·skip
     refine Qh ?_
     refine Qf ?_
     refine Yz Y ?_ by7 by5
     clear HE HD HP hz;first|(simp_all;done)|(simp_all;omega)|grind
    skip
    refine QbP ?_
    refine Zk 52 Y Y Y Y Y (Ye Y tu_9 Y Y Y (hd) ?_)
    refine Qah ?_;intro c53 h53
    refine Qf ?_
    refine Yz Y ?_ by7 by5
    clear HE HD HP hz;first|(simp_all;done)|(simp_all;omega)|grind
   intro c54 h54
   refine Qe ?_
   obtain ⟨rfl,g54⟩|⟨rfl,g54⟩:=Za h54
   ·refine QN ?_
    have hzz:zeros (mid s f n)=0:=by
     rw [hmc]
     refine zeros_no fun q=>g54 ⟨?_,q.1⟩
     rcases Nat.lt_or_ge (f+1) n with q2|q2
     ·exact q2
     exact absurd (by have:=mid_len s (f+1) n hns;exact List.eq_nil_of_length_eq_zero by16) q.2
    have hF:F=f:=by rw [← hFF,hz,hzz];omega
    subst hF
    refine QJ ?_
    refine Qb ?_
    refine Qdz ?_
    refine Zb 62 Y Y Y (Zd (xs:=[.tmp 61]) Y Y (HP) by3 ?_)
    refine Qbc ?_
    refine QbZ ?_
    refine Q5 ?_;intro c66 h66
    refine Qa ?_
    obtain ⟨rfl,g66⟩|⟨rfl,g66⟩:=Za h66
    ·omega
    refine Q7 ?_
    refine Qbm ?_
    refine QbH ?_
    refine Qbv ?_
    first|refine Zr (i:=1) Y Y Y Y Y Zv Y (Yv _) by5 ⟨?_,Y⟩|refine Zr (i:=0) Y Y Y Y Y Zv Y (Yv _) by5 ⟨?_,Y⟩
    rw [hO];rfl
   refine QaG ?_
   refine Qbu ?_
   refine Qbb ?_
   have hne:mid s (f+1) n≠[]:=fun e=>by
    have:=mid_len s (f+1) n hns
    rw [e] at this;simp at this;omega
   rw [hmc,g54.2,zeros_48 hne] at hz
   exact ⟨f+1,⟨by omega,by omega,by omega⟩,by simp;omega,by6,by5⟩
  omega
 | some v =>
  rw [hp] at HP hO
  simp only [parR] at HP hO
  refine QcZ ?_
  refine Qv ?_
  refine QB ?_;intro b4
  refine QaW ?_
  refine QO ?_
  refine Qdy ?_
  refine QaI ?_
  refine Qc0 ?_
  refine QB ?_;intro b8
  refine QbA ?_
  refine Qi ?_;intro c23 h23
  refine Qa ?_
  obtain ⟨rfl,g23⟩|⟨rfl,g23⟩:=Za h23
  ·refine Qav ?_
   refine Zb 40 Y Y Y (Zj (xs:=[.tmp 39]) Y Y (HD _) by3 ?_);intro c40 h40
   refine Qa ?_
   obtain ⟨rfl,g40⟩|⟨rfl,g40⟩:=Za h40
   ·exact absurd h2 g40
   refine Qk ?_
   refine QO ?_
   refine Zb 43 Y Y Y (Zd (xs:=[.tmp 41,.tmp 42,.const (.int .i64 2)]) Y Y (HE) by3 ?_)
   refine QaI ?_
   refine Qd ?_
   refine Qa7 ?_
   apply Zw (rg [(2,2),(9,3),(13,1),(17,40)]) (σ:=Nat) (fun zz=>match zz with|f=>[(13,.val (.int .i64 f))]) (fun zz=>match zz with|f=>at_≤f∧f+1≤n∧zeros (mid s at_ n)=f - at_+zeros (mid s f n)) (fun zz=>match zz with|f=>n - f) (at_)
   ·repeat' (first|exact Xe|apply Xc rfl|apply Xd rfl)
   ·exact ⟨Nat.le_refl _,by omega,by simp⟩
   ·exact by6
   rintro f hI
   try dsimp only [List.cons_append,List.nil_append] at hI ⊢
   obtain ⟨hf1,hf2,hz⟩:=hI
   refine QK ?_
   obtain ⟨d,hd,hrd,hdl⟩:=Ym (s:=s) (i:=f) by16
   have hmc:=mid_cons (n:=n) by16 hrd
   refine Zt 54 (f+1<n∧d.toNat=48) ?_ _ _ Y ?_
   ·skip
    refine QaF ?_
    refine QT ?_
    refine Qm ?_;intro c48 h48
    refine Qb ?_
    obtain ⟨rfl,g48⟩|⟨rfl,g48⟩:=Za h48
    ·skip
     refine Qh ?_
     refine Qf ?_
     refine Yz Y ?_ by7 by5
     clear HE HD HP hz;first|(simp_all;done)|(simp_all;omega)|grind
    skip
    refine QbP ?_
    refine Zk 52 Y Y Y Y Y (Ye Y tu_9 Y Y Y (hd) ?_)
    refine Qah ?_;intro c53 h53
    refine Qf ?_
    refine Yz Y ?_ by7 by5
    clear HE HD HP hz;first|(simp_all;done)|(simp_all;omega)|grind
   intro c54 h54
   refine Qe ?_
   obtain ⟨rfl,g54⟩|⟨rfl,g54⟩:=Za h54
   ·refine QN ?_
    have hzz:zeros (mid s f n)=0:=by
     rw [hmc]
     refine zeros_no fun q=>g54 ⟨?_,q.1⟩
     rcases Nat.lt_or_ge (f+1) n with q2|q2
     ·exact q2
     exact absurd (by have:=mid_len s (f+1) n hns;exact List.eq_nil_of_length_eq_zero by16) q.2
    have hF:F=f:=by rw [← hFF,hz,hzz];omega
    subst hF
    refine QJ ?_
    refine Qb ?_
    refine Qdz ?_
    refine Zb 62 Y Y Y (Zd (xs:=[.tmp 61]) Y Y (HP) by3 ?_)
    refine Qbc ?_
    refine QbZ ?_
    refine Q5 ?_;intro c66 h66
    refine Qa ?_
    obtain ⟨rfl,g66⟩|⟨rfl,g66⟩:=Za h66
    ·refine QF ?_
     refine QbN ?_
     refine Qc7 ?_
     refine Qq ?_
     refine Qx ?_
     refine Zq Y Y (Zm (cs':=[_,_,_,_]) (i:=0) Y ts_2 Y Y Y Y Y (Xb Y) Y ?_)
     refine Qq ?_
     refine QaF ?_
     refine Qdz ?_
     refine Qx ?_
     refine Qdx ?_
     refine QbB ?_
     first|refine Zr (i:=1) Y Y Y Y Y Zv Y (Yv _) by5 ⟨?_,Y⟩|refine Zr (i:=0) Y Y Y Y Y Zv Y (Yv _) by5 ⟨?_,Y⟩
     rw [hO];rfl
    omega
   refine QaG ?_
   refine Qbu ?_
   refine Qbb ?_
   have hne:mid s (f+1) n≠[]:=fun e=>by
    have:=mid_len s (f+1) n hns
    rw [e] at this;simp at this;omega
   rw [hmc,g54.2,zeros_48 hne] at hz
   exact ⟨f+1,⟨by omega,by omega,by omega⟩,by simp;omega,by6,by5⟩
  omega
theorem one_c (s:ByteArray) (hs:s.size≤60000) (at_:Nat) (ha:at_<s.size):PCall Try.prog 70 [.val (.string s),.val (.int .i64 at_)] (oneR (oneL at_ (rst s at_))):=by
 obtain ⟨b,hb,hr,_⟩:=Ym ha
 by_cases q1:b.toNat=34
 ·rw [hr];exact one_text s hs at_ ha b hb q1
 by_cases q2:digitC b.toNat=true
 ·exact one_digit s hs at_ ha b hb q2
 exact one_N s hs at_ ha b hb q1 q2
theorem txL_le:∀ (l:List Nat) (r:List Nat × Nat),txL l=some r→1≤r.2∧r.2≤l.length
 | [],r,h=>by simp [txL] at h
 | [c],r,h=>by
  rw [txL.eq_def] at h
  simp only [] at h
  split at h
  ·cases h;simp
  split at h
  ·cases h
  split at h
  ·cases h
  simp [txL] at h
 | c::d::l,r,h=>by
  by_cases h1:c=34
  ·subst h1;rw [tx_end] at h;cases h;simp
  by_cases h2:c=10
  ·subst h2;rw [tx_10] at h;cases h
  by_cases h3:c=92
  ·subst h3
   rw [tx_esc] at h
   cases hu:unesc d with
   | none=>rw [hu] at h;cases h
   | some x =>
    rw [hu] at h
    simp only [] at h
    cases ht:txL l with
    | none=>rw [ht] at h;cases h
    | some y =>
     rw [ht] at h;cases h
     have:=txL_le l y ht
     simp;omega
  rw [tx_more _ h1 h2 h3] at h
  cases ht:txL (d::l) with
  | none=>rw [ht] at h;cases h
  | some y =>
   rw [ht] at h;cases h
   have:=txL_le (d::l) y ht
   simp at this ⊢;omega
theorem oneL_le (a:Int) (c:Nat) (r:List Nat) (h:(oneL a (c::r)).2.2=0):a+1≤(oneL a (c::r)).2.1∧(oneL a (c::r)).2.1≤a+(c::r).length:=by
 by_cases h1:c=34
 ·rw [oneL,if_pos h1] at h ⊢
  cases ht:txL r with
  | none=>rw [ht] at h;simp at h
  | some y =>
   have:=txL_le r y ht
   simp;omega
 have hl1:=run_le 1 (c::r)
 have hl2:=run_le 2 (c::r)
 have hl3:=run_le 3 (c::r)
 by_cases h2:digitC c=true
 ·have:=run_pos (k:=2) (c:=c) (l:=r) h2
  rw [oneL_D h1 h2,digO] at h ⊢
  revert h
  cases parL (((c::r).take (run 2 (c::r))).drop (zeros ((c::r).take (run 2 (c::r))))) with
  | none=>intro h;simp at h
  | some v=>intro _;simp only [];omega
 have nm:∀ k w,1≤k→k≤(c::r).length→(nameO a c k w).2.2=0→a+1≤(nameO a c k w).2.1∧(nameO a c k w).2.1≤a+(c::r).length:=by
  intro k w k1 k2 h
  unfold nameO at h ⊢
  by_cases q:40<k
  ·rw [if_pos q] at h;simp at h
  rw [if_neg q];simp only [];omega
 by_cases h3:smallC c=true∨greatC c=true
 ·have hp:=run_pos (k:=1) (c:=c) (l:=r) (by rw [kindC,if_pos rfl,nameC_iff];rcases h3 with q|q;exact .inl q;exact .inr (.inl q))
  rw [oneL_A h1 h2 h3] at h ⊢
  exact nm _ _ hp hl1 h
 by_cases h4:signC c=true
 ·have hp:=run_pos (k:=3) (c:=c) (l:=r) (by rw [kindC,if_neg by15,if_neg by15];exact h4)
  rw [oneL_B h1 h2 h3 h4] at h ⊢
  exact nm _ _ hp hl3 h
 rw [oneL_C h1 h2 h3 h4] at h ⊢
 by_cases q:markT (strN ((c::r).take 1))=false
 ·rw [if_pos q] at h;simp at h
 rw [if_neg q] at h ⊢
 exact nm _ _ (Nat.le_refl _) by17 h
def scanR (o:List Tok × Int × Int):AV:=.tup [.seq 4 (o.1.map Tok.av),.val (.int .i64 o.2.1),.val (.int .i64 o.2.2)]
theorem lexF_nil (f:Nat) (i:Int) (acc:List Tok):lexF f i [] acc=(acc++[tok0 i],0,0):=by cases f <;> rfl
theorem lexF_bad {f:Nat} {i:Int} {c:Nat} {l:List Nat} {acc:List Tok} (h:(oneL i (c::l)).2.2≠0):lexF (f+1) i (c::l) acc=([],(oneL i (c::l)).2.2,i):=by
 rw [lexF];simp only [if_pos h]
theorem lexF_go {f:Nat} {i:Int} {c:Nat} {l:List Nat} {acc:List Tok} (h:(oneL i (c::l)).2.2=0):lexF (f+1) i (c::l) acc=lexF f ((oneL i (c::l)).2.1+ovr false ((c::l).drop ((oneL i (c::l)).2.1 - i).toNat)) (((c::l).drop ((oneL i (c::l)).2.1 - i).toNat).drop (ovr false ((c::l).drop ((oneL i (c::l)).2.1 - i).toNat))) (acc++[(oneL i (c::l)).1]):=by
 rw [lexF];simp only [if_neg (fun q:(oneL i (c::l)).2.2≠0=>q h)]
theorem Scan_long (s:ByteArray) (hs:60000<s.size):PCall Try.prog 53 [.val (.string s)] (scanR (scanT s)):=by
 have hO:scanT s=([],3,0):=by rw [scanT,if_pos hs]
 refine Zc Try.func53 Y (by kernel_rfl) Y (Xb Y) ?_
 refine Qv ?_
 refine QaR ?_
 refine QbZ ?_
 refine Qcb ?_
 refine Q8 ?_;intro c13 h13
 refine Qa ?_
 obtain ⟨rfl,g13⟩|⟨rfl,g13⟩:=Za h13
 ·omega
 refine Q7 ?_
 refine QbY ?_
 exact out_ttt (v':=scanR ([],3,0)) Y Y Y Y (Le.tup (Yx (Le.nil _) (Yw _))) by5 ⟨by rw [hO],Y⟩
theorem Scan_short (s:ByteArray) (hs:s.size≤60000):PCall Try.prog 53 [.val (.string s)] (scanR (scanT s)):=by
 have HB:=bad_c s hs
 have HO:=over_c s hs 0 (Nat.zero_le _)
 have hol:=ovr_le false (rst s 0)
 rw [rst_len] at hol
 have hO:scanT s=if 0≤badF (s.size+1) 0 (rst s 0) then ([],100,badF (s.size+1) 0 (rst s 0)) else lexF (s.size+1) (ovr false (rst s 0)) (rst s (ovr false (rst s 0))) []:=by
  rw [scanT,if_neg by16,rst_drop,Nat.zero_add]
 rw [Nat.zero_add] at HO
 generalize badF (s.size+1) 0 (rst s 0)=bd at *
 generalize hov:ovr false (rst s 0)=o0 at *
 refine Zc Try.func53 Y (by kernel_rfl) Y (Xb Y) ?_
 refine Qv ?_
 refine QaR ?_
 refine QbZ ?_
 refine Qcb ?_
 refine Q8 ?_;intro c13 h13
 refine Qa ?_
 obtain ⟨rfl,g13⟩|⟨rfl,g13⟩:=Za h13
 ·refine Q3 ?_
  refine Zb 15 Y Y Y (Zd (xs:=[.tmp 14]) Y Y (HB) by3 ?_)
  refine Qbz ?_
  refine Qcn ?_;intro c17 h17
  refine Qa ?_
  obtain ⟨rfl,g17⟩|⟨rfl,g17⟩:=Za h17
  ·refine QF ?_
   refine QC ?_
   refine QE ?_
   rw [if_neg by16] at hO
   refine ACode.ownNil (t:=6) 84 4 Y ?_
   refine Qg ?_
   refine Zb 20 Y Y Y (Zd (xs:=[.tmp 19,.const (.int .i64 0)]) Y Y (HO) by3 ?_)
   refine Qd ?_
   refine Qa7 ?_
   apply Yn (rg [(1,42)]) (σ:=Nat × Nat × List Tok × Value) (fun zz=>match zz with|(i,f,acc,u)=>[(6,.own u 4 (acc.map Tok.av)),(7,.val (.int .i64 i))]) (fun zz=>match zz with|(i,f,acc,u)=>[.own 84 4 u]) (fun zz=>match zz with|(i,f,acc,u)=>i≤s.size∧s.size - i<f∧acc.length≤i∧scanT s=lexF f i (rst s i) acc) (fun zz=>match zz with|(i,f,acc,u)=>s.size - i) ((o0,s.size+1,[],.slice none 0 0))
   ·repeat' (first|exact Xe|apply Xc rfl|apply Xd rfl)
   ·exact ⟨by omega,by omega,Nat.zero_le _,hO⟩
   ·exact (by repeat' (first|exact SLe.nil _|refine Yy Y ?_ ?_|exact Yv _|exact Le.own _ _ _|exact Le.nil _|(refine Xa ?_;rfl)|(refine Le.own_seq ?_;rfl)|(refine Le.seq_eq ?_;rfl)))
   ·exact by5
   rintro ⟨i,f,acc,u⟩ hI
   try dsimp only [List.cons_append,List.nil_append] at hI ⊢
   obtain ⟨h1,h2,h3,hu⟩:=hI
   have hle:(acc.map Tok.av).length≤100000:=by rw [List.length_map];omega
   refine Qal ?_
   refine Qby ?_;intro c24 h24
   refine Qa ?_
   obtain ⟨rfl,g24⟩|⟨rfl,g24⟩:=Za h24
   ·refine Qar ?_
    refine QO ?_
    refine Qcb ?_
    refine Zb 46 Y Y Y (Zi (ns:=[3]) (xs:=[.tmp 45]) Y tz_84 Y tfl_84 Y Y Y Y (Zb 47 Y Y Y (Ze (xs:=[.tmp 46]) el_86 Y Y Y Y Y Y (Xb Y) (Zb 48 Y Y Y (Zu (i:=0) el_86 Y Y Y Y (.seq _ _) by8 ?_)))))
    intro u48
    refine QbY ?_
    have hi:s.size=i:=by omega
    refine out_ttt (v':=scanR (acc++[tok0 i],0,0)) Y Y Y Y (Le.tup (Yx (Le.own_seq ?_) (Yw _))) by5 ⟨?_,Y⟩
    ·simp [Tok.av,tok0,AV.cells,hi];rfl
    rw [hu,rst_nil by16,lexF_nil]
   refine QaG ?_
   refine QE ?_
   obtain ⟨b,_,hr,_⟩:=Ym (s:=s) (i:=i) by16
   have H1:=one_c s hs i by16
   obtain ⟨f,rfl⟩:∃ f',f=f'+1:=⟨f - 1,by omega⟩
   have hb0:=lexF_bad (f:=f) (i:=i) (c:=b.toNat) (l:=rst s (i+1)) (acc:=acc)
   have hg0:=lexF_go (f:=f) (i:=i) (c:=b.toNat) (l:=rst s (i+1)) (acc:=acc)
   have hl0:=oneL_le i b.toNat (rst s (i+1))
   rw [← hr] at hb0 hg0 hl0
   rw [rst_len] at hl0
   obtain ⟨⟨⟨tk,tt,tn,ta⟩,nx,e⟩,ho⟩:∃ o,oneL i (rst s i)=o:=⟨_,rfl⟩
   rw [ho] at H1 hb0 hg0 hl0
   simp only [oneR,Tok.av] at H1 hb0 hg0 hl0
   refine QJ ?_
   refine Zb 28 Y Y Y (Zd (xs:=[.tmp 26,.tmp 27]) Y Y (H1) by3 ?_)
   refine Qbc ?_
   refine Qcl ?_
   refine QB ?_;intro b8
   refine Qai ?_
   refine QbZ ?_
   refine Q5 ?_;intro c33 h33
   refine Qa ?_
   obtain ⟨rfl,g33⟩|⟨rfl,g33⟩:=Za h33
   ·refine Qt ?_
    have he:e=0:=Classical.not_not.1 g33
    have hl1:=hl0 he
    have hg1:=hg0 he
    obtain ⟨m,rfl⟩:∃ m:Nat,nx=m:=⟨nx.toNat,by omega⟩
    have hol2:=ovr_le false (rst s m)
    rw [rst_len] at hol2
    rw [rst_drop,show i+((m:Int) - i).toNat=m by omega,rst_drop] at hg1
    refine Qg ?_
    refine Qbm ?_
    refine Zb 38 Y Y Y (Ze (xs:=[.tmp 37]) el_86 Y Y Y Y Y Y (Xb Y) (Zb 39 Y Y Y (Zu (i:=1) el_86 Y Y Y Y (.seq _ _) by8 ?_)))
    intro u39
    refine Qd ?_
    refine QJ ?_
    refine Zb 42 Y Y Y (Zd (xs:=[.tmp 40,.tmp 41]) Y Y (over_c s hs m by16) by3 ?_)
    refine Qbb ?_
    refine ⟨(m+ovr false (rst s m),f,acc++[⟨tk,tt,tn,ta⟩],u39),⟨(by show m+ovr false (rst s m)≤s.size;omega),(by show s.size - (m+ovr false (rst s m))<f;omega),by13,(by rw [hu,hg1];rfl)⟩,(by show s.size - (m+ovr false (rst s m))<s.size - i;omega),Yy Y (Xa (by simp [Tok.av,AV.cells])) by6,by5⟩
   refine Qk ?_
   refine QO ?_
   refine QbY ?_
   exact out_ttt (v':=scanR ([],e,i)) Y Y Y Y (Le.tup (Yx (Le.nil _) (Yw _))) by5 ⟨by rw [hu,hb0 g33],Y⟩
  refine QaH ?_
  refine QbY ?_
  exact out_ttt (v':=scanR ([],100,bd)) Y Y Y Y (Le.tup (Yx (Le.nil _) (Yw _))) by5 ⟨by rw [hO,if_pos by16],Y⟩
 omega
theorem Scan_c (s:ByteArray):PCall Try.prog 53 [.val (.string s)] (scanR (scanT s)):=by
 by_cases q:60000<s.size
 ·exact Scan_long s q
 exact Scan_short s by16
def psC (L:List Tok) (p:PS):List AV:=[.seq 4 (L.map Tok.av),.val (.int .i64 p.at_),.val (.int .i64 p.lv),.val (.int .i64 p.e),.val (.int .i64 p.wh)]
theorem next_c (b:Nat) (L:List Tok) (p:PS):KCall Try.prog 57 [.ptr b 0] [.loc b (psC L p)] (.agg (nxt L p).av):=by
 obtain ⟨a,lv,e,wh⟩:=p
 have hl:(L.map Tok.av).length=L.length:=List.length_map _
 simp only [psC]
 refine Zc Try.func57 Y (by kernel_rfl) Y (Xb Y) ?_
 refine Qv ?_
 refine QB ?_;intro b2
 refine Qa ?_
 refine QK ?_
 refine c_boold 19 (e≠0∨L.length≤a) tmix Y ?_ _ _ Y ?_
 ·skip
  refine Qap ?_
  refine Zs 4 Y Y (op_nilCheck_m Y Y ⟨Y,Y⟩) ?_
  refine QbJ ?_
  refine Zs 6 Y Y (op_load_m1 (i:=1) Y ta_3 Y Y Y ⟨Y,Y⟩) ?_
  refine DOps.cm 7 Y Y (fun _ q=>op_neq Y Y Y q) ?_;intro c7 h7
  refine Qap ?_
  obtain ⟨rfl,g7⟩|⟨rfl,g7⟩:=Za h7
  ·skip
   refine Qbf ?_
   refine DOps.gt 10 Y Y Y Y (op_nilCheck_m Y Y ⟨Y,Y⟩) ?_
   refine DOps.gt 11 Y Y Y Y (op_fieldAddr_m Y tf_88_1 Y ⟨Y,Y⟩) ?_
   refine DOps.gt 12 Y Y Y Y (op_load_m1 (i:=1) Y ta_3 Y Y Y ⟨Y,Y⟩) ?_
   refine Qbf ?_
   refine DOps.gt 14 Y Y Y Y (op_nilCheck_m Y Y ⟨Y,Y⟩) ?_
   refine DOps.gt 15 Y Y Y Y (op_fieldAddr_m Y tf_88_0 Y ⟨Y,Y⟩) ?_
   refine DOps.gt 16 Y Y Y Y (op_load_m1 (i:=1) Y ta_86 Y Y Y ⟨Y,Y⟩) ?_
   refine DOps.gt 17 Y Y Y Y (op_len Y tu_86 Y (.seq _ _) (fun _=>⟨Y,Y⟩)) ?_
   refine DOps.gtc 18 Y Y Y Y (fun _ q=>op_geq Y Y Y q) ?_;intro c18 h18
   refine Qbn ?_
   show BoolQ _ _ _ _ _ _
   refine Yz Y ?_ by7 by5
   simp_all;done
  skip
  refine QaY ?_
  refine QaY ?_
  refine Qa4 ?_
  refine Qa4 ?_
  refine Qbn ?_
  show BoolQ _ _ _ _ _ _
  refine Yz Y ?_ by7 by5
  simp_all;done
 intro c19 h19
 refine Qe ?_
 obtain ⟨rfl,g19⟩|⟨rfl,g19⟩:=Za h19
 ·refine Qt ?_
  obtain ⟨t,ht⟩:=Zn (l:=L) (i:=a) by16
  have htc:(L.map Tok.av)[a]?=some t.av:=by rw [List.getElem?_map,ht];rfl
  refine Yc [0,1,2,3,4,5,6,7,8,9,10] [10] [[],[0],[0,1],[0,1,2],[],[4],[4,5],[4,5,6],[0,1,2,3,4,5,6,7],[0,1,2,3,4,5,6,7,8],[0,1,2,3,4,5,6,7,8,9]] tmix Y ?_
  refine Qr ?_
  refine Zf 22 (none) (i:=1) Y Y Y Y Y (op_nilCheck_m Y Y ⟨Y,Y⟩) ?_
  refine QR ?_
  refine QdA ?_
  refine Qr ?_
  refine Zf 26 (none) (i:=5) Y Y Y Y Y (op_nilCheck_m Y Y ⟨Y,Y⟩) ?_
  refine QR ?_
  refine QdA ?_
  refine Zf 29 (none) (i:=8) Y Y Y Y Y (Zo Y te_86 Y (.seq _ _) Y Y (htc) ⟨Y,Y⟩) ?_
  refine Zf 30 (none) (i:=9) Y Y Y Y Y (Yb (cs':=[_,_,_,_]) Y Zv Y Y Y ⟨Y,Y⟩) ?_
  refine Zz 0 (i:=10) Y Y Y Y Y (Zm (cs':=[_,_,_,_]) (i:=0) Y ts_84 Y Y Y Y Y (Xb Y) Y ⟨_,Y,?_⟩)
  show AGo _ _ _ _ _ _ _
  refine QV ?_
  first|refine Zl (i:=0) Y Y Y Zv Y (Yv _) by5 ⟨?_,Y⟩|refine Zl (i:=1) Y Y Y Zv Y (Yv _) by5 ⟨?_,Y⟩
  have hn:nxt L ⟨a,lv,e,wh⟩=t:=by
   unfold nxt
   rw [if_neg (fun q=>g19 (.inl q)),ht];rfl
  rw [hn];rfl
 refine Q7 ?_
 refine Qd7 ?_
 refine Qai ?_
 refine Qo ?_
 first|refine Zl (i:=0) Y Y Y Zv Y (Yv _) by5 ⟨?_,Y⟩|refine Zl (i:=1) Y Y Y Zv Y (Yv _) by5 ⟨?_,Y⟩
 have hn:nxt L ⟨a,lv,e,wh⟩=tok0 0:=by
  unfold nxt
  by_cases q:e≠0
  ·rw [if_pos q]
  rw [if_neg q,List.getElem?_eq_none (g19.resolve_left q)];rfl
 rw [hn];rfl
theorem is_p (b:Nat) (L:List Tok) (p:PS) (s:ByteArray):KBCall Try.prog 89 [.ptr b 0,.val (.string s)] [.loc b (psC L p)] (isP L p s=true):=by
 have HN:=next_c b L p
 have hI:isP L p s=true↔(6≤(nxt L p).k∧(nxt L p).t=s):=by unfold isP;simp
 generalize isP L p s=c at *
 generalize nxt L p=t at *
 obtain ⟨tk,tt,tn,ta⟩:=t
 simp only [Tok.av] at HN hI
 refine Zc Try.func89 Y (by kernel_rfl) Y (Xb Y) ?_
 refine Qat ?_
 refine Qs ?_
 refine Zb 7 Y Y Y (Yf (xs:=[.tmp 6]) [0] Y Y Y (HN) by3 ?_)
 refine QB ?_;intro b5
 refine Qai ?_
 refine QL ?_
 refine Zt 4 (6≤tk∧tt=s) ?_ _ _ Y ?_
 ·skip
  refine Qa8 ?_
  refine Qcn ?_;intro c10 h10
  refine Qb ?_
  obtain ⟨rfl,g10⟩|⟨rfl,g10⟩:=Za h10
  ·skip
   refine Qh ?_
   refine Qz ?_
   refine Yz Y ?_ by7 by5
   clear HN hI;first|(simp_all;done)|grind
  skip
  refine QaE ?_
  refine Qc ?_
  refine Qdt ?_;intro c15 h15
  refine Qz ?_
  refine Yz Y ?_ by7 by5
  clear HN hI;first|(simp_all;done)|grind
 intro c4 h4
 refine QV ?_
 exact Zg Y Y (Yv _) by5 ⟨⟨_,h4.trans hI.symm,Y⟩,Y⟩
end Go.Proofs.Ytefbicnoddggnaa
namespace Go.Proofs.Ytefbicnoddggnaa
def POk (L:List Tok) (n:Nat) (p:PS):Prop:=p.at_≤L.length∧0≤p.lv∧p.lv≤301∧(p.e=0→301≤p.lv+n∧p.lv≤300)
def Adv (L:List Tok) (p p':PS):Prop:=p.at_≤p'.at_∧p'.at_≤L.length∧p.lv≤p'.lv∧p'.lv≤301∧(p'.e=0→p.e=0∧p'.lv=p.lv)
section
variable {L:List Tok} {n:Nat} {p p' p'':PS}
theorem Adv.trans (h:Adv L p p') (k:Adv L p' p''):Adv L p p'':=by
 unfold Adv at *;exact ⟨by omega,k.2.1,by omega,k.2.2.2.1,fun e=>⟨(h.2.2.2.2 (k.2.2.2.2 e).1).1,by rw [(k.2.2.2.2 e).2,(h.2.2.2.2 (k.2.2.2.2 e).1).2]⟩⟩
theorem Adv.ok (h:Adv L p p') (k:POk L n p):POk L n p':=by
 unfold Adv POk at *
 refine ⟨h.2.1,by omega,h.2.2.2.1,fun e=>?_⟩
 obtain ⟨e1,e2⟩:=h.2.2.2.2 e
 rw [e2];exact k.2.2.2 e1
theorem POk.refl (k:POk L n p):Adv L p p:=by
 unfold POk at k;exact ⟨Nat.le_refl _,k.1,Int.le_refl _,k.2.2.1,fun e=>⟨e,rfl⟩⟩
theorem POk.up {m:Nat} (k:POk L n p) (h:301≤m):POk L m p:=by
 unfold POk at *;exact ⟨k.1,k.2.1,k.2.2.1,fun e=>⟨by omega,(k.2.2.2 e).2⟩⟩
theorem is_k {s:ByteArray} (h:isP L p s=true):6≤(nxt L p).k∧(nxt L p).t=s:=by unfold isP at h;simpa using h
theorem is_lt {s:ByteArray} (h:isP L p s=true):p.e=0∧p.at_<L.length:=nxt_in (by have:=(is_k h).1;omega)
theorem Yq (k:POk L n p) (h:p.at_<L.length):Adv L p (stepP p):=by
 unfold POk at k;exact ⟨Nat.le_succ _,h,Int.le_refl _,k.2.2.1,fun e=>⟨e,rfl⟩⟩
theorem Yh {s:ByteArray} (k:POk L n p) (h:isP L p s=true):Adv L p (stepP p):=Yq k (is_lt h).2
theorem fail_ne {e wh:Int} (h:e≠0):(failP p e wh).e≠0:=by
 unfold failP;split
 ·exact h
 assumption
theorem fail_adv {e wh:Int} (k:POk L n p) (h:e≠0):Adv L p (failP p e wh):=by
 have h1:(failP p e wh).at_=p.at_:=by unfold failP;split <;> rfl
 have h2:(failP p e wh).lv=p.lv:=by unfold failP;split <;> rfl
 have h3:=fail_ne (p:=p) (wh:=wh) h
 unfold POk at k
 exact ⟨by omega,by omega,by omega,by omega,fun e=>absurd e h3⟩
theorem Zp {kind:Int} {s:ByteArray} (hk:kind≠0) (k:POk L n p):Adv L p (takeP L p kind s).2:=by
 unfold takeP
 by_cases q:p.e≠0
 ·rw [if_pos q];exact k.refl
 rw [if_neg q]
 by_cases q2:(kind<6∧(nxt L p).k≠kind)∨(6≤kind∧((nxt L p).k<6∨(nxt L p).t≠s))
 ·rw [if_pos q2];exact fail_adv k by15
 rw [if_neg q2];exact Yq k (nxt_in by16).2
theorem take_is {kind:Int} {s:ByteArray} (h:isP L p s=true) (hk:6≤kind):takeP L p kind s=(nxt L p,stepP p):=by
 obtain ⟨h1,h2⟩:=is_k h
 unfold takeP
 rw [if_neg (by rw [(is_lt h).1];simp),if_neg]
 rintro (q|q)
 ·omega
 rcases q.2 with q|q
 ·omega
 exact q h2
theorem take_k {kind:Int} {s:ByteArray} (h:(nxt L p).k=kind) (h0:kind≠0) (hk:kind<6):takeP L p kind s=(nxt L p,stepP p):=by
 unfold takeP
 rw [if_neg (by rw [(nxt_in (L:=L) (p:=p) by16).1];simp),if_neg]
 rintro (q|q)
 ·exact q.2 h
 omega
theorem deeper_ok (k:POk L (n+1) p) (he:p.e=0):POk L n (deeperP L p):=by
 unfold POk at *
 obtain ⟨k1,k2,k3,k4⟩:=k
 have k4:=k4 he
 unfold deeperP
 by_cases q:300<p.lv+1
 ·rw [if_pos q]
  have h3:=fail_ne (p:={ p with lv:=p.lv+1 }) (e:=111) (wh:=(nxt L { p with lv:=p.lv+1 }).a) by15
  have h1:∀ e wh,(failP { p with lv:=p.lv+1 } e wh).at_=p.at_:=fun e wh=>by unfold failP;split <;> rfl
  have h2:∀ e wh,(failP { p with lv:=p.lv+1 } e wh).lv=p.lv+1:=fun e wh=>by unfold failP;split <;> rfl
  exact ⟨by rw [h1];exact k1,by rw [h2];omega,by rw [h2];omega,fun e=>absurd e h3⟩
 rw [if_neg q]
 exact ⟨k1,by show 0≤p.lv+1;omega,by show p.lv+1≤301;omega,fun _=>⟨by show 301≤p.lv+1+n;omega,by show p.lv+1≤300;omega⟩⟩
theorem deeper_at:(deeperP L p).at_=p.at_∧(deeperP L p).lv=p.lv+1:=by
 unfold deeperP
 split
 ·exact ⟨by unfold failP;split <;> rfl,by unfold failP;split <;> rfl⟩
 exact ⟨Y,Y⟩
theorem dec_adv {r:PS} (he:p.e=0) (h:Adv L (deeperP L p) r):Adv L p (decP r):=by
 obtain ⟨d1,d2⟩:=deeper_at (L:=L) (p:=p)
 unfold Adv at *
 obtain ⟨h1,h2,h3,h4,h5⟩:=h
 refine ⟨by show p.at_≤r.at_;omega,h2,by show p.lv≤r.lv - 1;omega,by show r.lv - 1≤301;omega,fun e=>⟨he,?_⟩⟩
 have:=h5 e
 show r.lv - 1=p.lv
 omega
theorem name_adv (k:POk L n p):Adv L p (nameP L p).2:=by
 unfold nameP
 by_cases h:isP L p kLP=true
 ·rw [if_pos h]
  have a1:=Yh k h
  have a2:=Zp (kind:=5) (s:=kE) by15 (a1.ok k)
  exact (a1.trans a2).trans (Zp (kind:=7) by15 ((a1.trans a2).ok k))
 rw [if_neg h];exact Zp by15 k
section types
variable {T:PS→Ty × PS} (HT:∀ p,POk L n p→Adv L p (T p).2)
include HT
theorem atype_adv (k:POk L n p):Adv L p (atypeG L T p).2:=by
 unfold atypeG
 by_cases h:(nxt L p).k=2
 ·rw [if_pos h];exact Yq k (nxt_in by16).2
 by_cases h1:(nxt L p).k=1
 ·rw [if_neg h,if_pos h1];exact Yq k (nxt_in by16).2
 rw [if_neg h,if_neg h1]
 have a1:=Zp (L:=L) (kind:=7) (s:=kLP) by15 k
 by_cases h2:isP L (takeP L p 7 kLP).2 kRP=true
 ·rw [if_pos h2];exact a1.trans (Yh (a1.ok k) h2)
 rw [if_neg h2]
 have a2:=a1.trans (HT _ (a1.ok k))
 exact a2.trans (Zp by15 (a2.ok k))
theorem atype_lt (k:POk L n p) (hs:startsP L 0 p):p.at_+1≤(atypeG L T p).2.at_:=by
 unfold atypeG
 by_cases h:(nxt L p).k=2
 ·rw [if_pos h];exact Nat.le_refl _
 by_cases h1:(nxt L p).k=1
 ·rw [if_neg h,if_pos h1];exact Nat.le_refl _
 rw [if_neg h,if_neg h1]
 have hl:isP L p kLP=true:=by
  unfold startsP at hs
  rcases hs with q|q|q|q|q|q
  ·exact absurd q h1
  ·exact absurd q h
  ·exact q
  ·omega
  ·omega
  omega
 have e1:=take_is (kind:=7) hl by15
 rw [e1]
 have a1:=Yh k hl
 by_cases h2:isP L (stepP p) kRP=true
 ·rw [if_pos h2];have:=Yh (a1.ok k) h2;exact Nat.le_succ _
 rw [if_neg h2]
 have a2:=HT _ (a1.ok k)
 have a3:=a2.trans (Zp (kind:=7) (s:=kRP) by15 (a2.ok (a1.ok k)))
 exact a3.1
theorem typesL_adv:∀ (f:Nat) (p:PS) (acc:List Ty),POk L n p→Adv L p (typesL L T f p acc).2
 | 0,p,acc,k=>k.refl
 | f+1,p,acc,k=>by
  unfold typesL
  by_cases h:startsP L 0 p
  ·rw [if_pos h]
   have a1:=atype_adv HT k
   exact a1.trans (typesL_adv f _ _ (a1.ok k))
  rw [if_neg h];exact k.refl
theorem typeH_adv (k:POk L n p):Adv L p (typeH L T p).2:=by
 unfold typeH
 by_cases h:(nxt L p).k=2
 ·rw [if_pos h]
  have a1:=Yq k (nxt_in (L:=L) (p:=p) by16).2
  exact a1.trans (typesL_adv HT _ _ _ (a1.ok k))
 rw [if_neg h];exact atype_adv HT k
end types
theorem typeF_adv:∀ (n:Nat) (p:PS),POk L n p→Adv L p (typeF L n p).2
 | 0,p,k=>k.refl
 | n+1,p,k=>by
  unfold typeF
  by_cases he:p.e≠0
  ·rw [if_pos he];exact k.refl
  rw [if_neg he]
  have he:p.e=0:=Classical.not_not.1 he
  have kq:=deeper_ok k he
  have HT:=typeF_adv n
  have a1:=typeH_adv HT kq
  unfold typeR
  by_cases h:isP L (typeH L (typeF L n) (deeperP L p)).2 kArrow=true
  ·rw [if_pos h]
   have a2:=a1.trans (Yh (a1.ok kq) h)
   exact dec_adv he (a2.trans (HT _ (a2.ok kq)))
  rw [if_neg h];exact dec_adv he a1
theorem typeP_adv (k:POk L n p):Adv L p (typeP L p).2:=typeF_adv 302 p (k.up by15)
section pats
variable {T:PS→Pa × PS} (HT:∀ p,POk L n p→Adv L p (T p).2)
include HT
theorem apat_adv (k:POk L n p):Adv L p (apatG L T p).2:=by
 unfold apatG
 by_cases h:(nxt L p).k=2
 ·rw [if_pos h];exact Yq k (nxt_in by16).2
 by_cases h1:(nxt L p).k=1
 ·rw [if_neg h,if_pos h1];exact Yq k (nxt_in by16).2
 by_cases h3:(nxt L p).k=3
 ·rw [if_neg h,if_neg h1,if_pos h3];exact Yq k (nxt_in by16).2
 by_cases h4:isP L p kUn=true
 ·rw [if_neg h,if_neg h1,if_neg h3,if_pos h4];exact Yh k h4
 rw [if_neg h,if_neg h1,if_neg h3,if_neg h4]
 have a1:=Zp (L:=L) (kind:=7) (s:=kLP) by15 k
 by_cases h2:isP L (takeP L p 7 kLP).2 kRP=true
 ·rw [if_pos h2];exact a1.trans (Yh (a1.ok k) h2)
 rw [if_neg h2]
 have a2:=a1.trans (HT _ (a1.ok k))
 exact a2.trans (Zp by15 (a2.ok k))
theorem apat_lt (k:POk L n p) (hs:startsP L 1 p):p.at_+1≤(apatG L T p).2.at_:=by
 unfold apatG
 by_cases h:(nxt L p).k=2
 ·rw [if_pos h];exact Nat.le_refl _
 by_cases h1:(nxt L p).k=1
 ·rw [if_neg h,if_pos h1];exact Nat.le_refl _
 by_cases h3:(nxt L p).k=3
 ·rw [if_neg h,if_neg h1,if_pos h3];exact Nat.le_refl _
 by_cases h4:isP L p kUn=true
 ·rw [if_neg h,if_neg h1,if_neg h3,if_pos h4];exact Nat.le_refl _
 rw [if_neg h,if_neg h1,if_neg h3,if_neg h4]
 have hl:isP L p kLP=true:=by
  unfold startsP at hs
  rcases hs with q|q|q|q|q|q
  ·exact absurd q h1
  ·exact absurd q h
  ·exact q
  ·exact absurd q.2 h3
  ·exact absurd q.2 h4
  omega
 have e1:=take_is (kind:=7) hl by15
 rw [e1]
 have a1:=Yh k hl
 by_cases h2:isP L (stepP p) kRP=true
 ·rw [if_pos h2];exact Nat.le_succ _
 rw [if_neg h2]
 have a2:=HT _ (a1.ok k)
 have a3:=a2.trans (Zp (kind:=7) (s:=kRP) by15 (a2.ok (a1.ok k)))
 exact a3.1
theorem patsL_adv:∀ (f:Nat) (p:PS) (acc:List Pa),POk L n p→Adv L p (patsL L T f p acc).2
 | 0,p,acc,k=>k.refl
 | f+1,p,acc,k=>by
  unfold patsL
  by_cases h:startsP L 1 p
  ·rw [if_pos h]
   have a1:=apat_adv HT k
   exact a1.trans (patsL_adv f _ _ (a1.ok k))
  rw [if_neg h];exact k.refl
end pats
theorem patF_adv:∀ (n:Nat) (p:PS),POk L n p→Adv L p (patF L n p).2
 | 0,p,k=>k.refl
 | n+1,p,k=>by
  unfold patF
  by_cases he:p.e≠0
  ·rw [if_pos he];exact k.refl
  rw [if_neg he]
  have he:p.e=0:=Classical.not_not.1 he
  have kq:=deeper_ok k he
  have HT:=patF_adv n
  by_cases h:(nxt L (deeperP L p)).k=2
  ·rw [if_pos h]
   have a1:=Yq kq (nxt_in (L:=L) (p:=deeperP L p) by16).2
   exact dec_adv he (a1.trans (patsL_adv HT _ _ _ (a1.ok kq)))
  rw [if_neg h];exact dec_adv he (apat_adv HT kq)
theorem patP_adv (k:POk L n p):Adv L p (patP L p).2:=patF_adv 302 p (k.up by15)
end
section
variable {L:List Tok} {n:Nat} {p p' p'':PS}
section exps
variable {E:PS→Ex × PS} (HE:∀ p,POk L n p→Adv L p (E p).2)
include HE
theorem bindG_adv (k:POk L n p):Adv L p (bindG L E p).2:=by
 unfold bindG
 have a1:=name_adv k
 have a2:=a1.trans (Zp (kind:=7) (s:=kEq) by15 (a1.ok k))
 exact a2.trans (HE _ (a2.ok k))
theorem bindsL_adv:∀ (f:Nat) (p:PS) (acc:List Bi),POk L n p→Adv L p (bindsL L E f p acc).2
 | 0,p,acc,k=>k.refl
 | f+1,p,acc,k=>by
  unfold bindsL
  by_cases h:isP L p kAnd=true
  ·rw [if_pos h]
   have a1:=Yh k h
   have a2:=a1.trans (bindG_adv HE (a1.ok k))
   exact a2.trans (bindsL_adv f _ _ (a2.ok k))
  rw [if_neg h];exact k.refl
theorem lambda_adv:∀ (f:Nat) (p:PS) (a:Int),POk L n p→Adv L p (lambdaG L E f p a).2
 | 0,p,a,k=>k.refl
 | f+1,p,a,k=>by
  unfold lambdaG
  have a1:=Zp (L:=L) (kind:=1) (s:=kE) by15 k
  by_cases h:(nxt L (takeP L p 1 kE).2).k=1
  ·rw [if_pos h];exact a1.trans (lambda_adv f _ _ (a1.ok k))
  rw [if_neg h]
  have a2:=a1.trans (Zp (kind:=7) (s:=kArrow) by15 (a1.ok k))
  exact a2.trans (HE _ (a2.ok k))
theorem altG_adv (k:POk L n p):Adv L p (altG L E p).2:=by
 unfold altG
 have a1:=patP_adv k
 have a2:=a1.trans (Zp (kind:=7) (s:=kArrow) by15 (a1.ok k))
 exact a2.trans (HE _ (a2.ok k))
theorem altsL_adv:∀ (f:Nat) (p:PS) (acc:List Al),POk L n p→Adv L p (altsL L E f p acc).2
 | 0,p,acc,k=>k.refl
 | f+1,p,acc,k=>by
  unfold altsL
  by_cases he:p.e≠0
  ·rw [if_pos he];exact k.refl
  rw [if_neg he]
  have a1:=altG_adv HE k
  by_cases h:isP L (altG L E p).2 kBar=true
  ·rw [if_pos h]
   have a2:=a1.trans (Yh (a1.ok k) h)
   exact a2.trans (altsL_adv f _ _ (a2.ok k))
  rw [if_neg h];exact a1
theorem caseG_adv (a:Int) (k:POk L n p):Adv L p (caseG L E a p).2:=by
 have a1:=HE _ k
 have a2:=a1.trans (Zp (kind:=6) (s:=kOf) by15 (a1.ok k))
 have a3:=a2.trans (altsL_adv HE (L.length+1) _ [] (a2.ok k))
 exact a3.trans (Zp (kind:=6) (s:=kEnd) by15 (a3.ok k))
omit HE in
theorem annG_adv {a:Int} {x:Ex × PS} (k:POk L n p) (h:Adv L p x.2):Adv L p (annG L a x).2:=by
 unfold annG
 by_cases h1:isP L x.2 kColon=true
 ·rw [if_pos h1]
  have a1:=h.trans (Yh (h.ok k) h1)
  have a2:=a1.trans (typeP_adv (a1.ok k))
  exact a2.trans (Zp by15 (a2.ok k))
 rw [if_neg h1];exact h.trans (Zp by15 (h.ok k))
theorem atom_adv (k:POk L n p):Adv L p (atomG L E p).2:=by
 unfold atomG
 by_cases h1:(nxt L p).k=1
 ·rw [if_pos h1];exact Yq k (nxt_in by16).2
 by_cases h2:(nxt L p).k=2
 ·rw [if_neg h1,if_pos h2];exact Yq k (nxt_in by16).2
 by_cases h3:(nxt L p).k=3
 ·rw [if_neg h1,if_neg h2,if_pos h3];exact Yq k (nxt_in by16).2
 by_cases h4:(nxt L p).k=4
 ·rw [if_neg h1,if_neg h2,if_neg h3,if_pos h4];exact Yq k (nxt_in by16).2
 by_cases h5:isP L p kCase=true
 ·rw [if_neg h1,if_neg h2,if_neg h3,if_neg h4,if_pos h5]
  have a1:=Yh k h5
  exact a1.trans (caseG_adv HE _ (a1.ok k))
 rw [if_neg h1,if_neg h2,if_neg h3,if_neg h4,if_neg h5]
 have a1:=Zp (L:=L) (kind:=7) (s:=kLP) by15 k
 by_cases h6:isP L (takeP L p 7 kLP).2 kRP=true
 ·rw [if_pos h6];exact a1.trans (Yh (a1.ok k) h6)
 by_cases h7:(nxt L (takeP L p 7 kLP).2).k=5
 ·rw [if_neg h6,if_pos h7]
  have a2:=a1.trans (Zp (kind:=5) (s:=kE) by15 (a1.ok k))
  exact a2.trans (Zp by15 (a2.ok k))
 rw [if_neg h6,if_neg h7]
 exact annG_adv k (a1.trans (HE _ (a1.ok k)))
theorem atom_lt (k:POk L n p) (hs:startsP L 2 p):p.at_+1≤(atomG L E p).2.at_:=by
 unfold atomG
 by_cases h1:(nxt L p).k=1
 ·rw [if_pos h1];exact Nat.le_refl _
 by_cases h2:(nxt L p).k=2
 ·rw [if_neg h1,if_pos h2];exact Nat.le_refl _
 by_cases h3:(nxt L p).k=3
 ·rw [if_neg h1,if_neg h2,if_pos h3];exact Nat.le_refl _
 by_cases h4:(nxt L p).k=4
 ·rw [if_neg h1,if_neg h2,if_neg h3,if_pos h4];exact Nat.le_refl _
 by_cases h5:isP L p kCase=true
 ·rw [if_neg h1,if_neg h2,if_neg h3,if_neg h4,if_pos h5]
  have a1:=Yh k h5
  exact (caseG_adv HE _ (a1.ok k)).1
 rw [if_neg h1,if_neg h2,if_neg h3,if_neg h4,if_neg h5]
 have hl:isP L p kLP=true:=by
  unfold startsP at hs
  rcases hs with q|q|q|q|q|q
  ·exact absurd q h1
  ·exact absurd q h2
  ·exact q
  ·exact absurd q.2 h3
  ·omega
  rcases q.2 with q|q
  ·exact absurd q h4
  exact absurd q h5
 have e1:=take_is (kind:=7) hl by15
 rw [e1]
 have a1:=Yh k hl
 have k1:=a1.ok k
 by_cases h6:isP L (stepP p) kRP=true
 ·rw [if_pos h6];exact Nat.le_succ _
 by_cases h7:(nxt L (stepP p)).k=5
 ·rw [if_neg h6,if_pos h7]
  have a2:=Zp (L:=L) (kind:=5) (s:=kE) by15 k1
  have a3:=a2.trans (Zp (kind:=7) (s:=kRP) by15 (a2.ok k1))
  exact a3.1
 rw [if_neg h6,if_neg h7]
 exact (annG_adv (a:=(nxt L p).a) k1 (HE _ k1)).1
theorem appsL_adv (a:Int):∀ (f:Nat) (p:PS) (x:Ex),POk L n p→Adv L p (appsL L E a f p x).2
 | 0,p,x,k=>k.refl
 | f+1,p,x,k=>by
  unfold appsL
  by_cases h:startsP L 2 p
  ·rw [if_pos h]
   have a1:=atom_adv HE k
   exact a1.trans (appsL_adv a f _ _ (a1.ok k))
  rw [if_neg h];exact k.refl
theorem letG_adv (a m:Int) (k:POk L n p):Adv L p (letG L E a m p).2:=by
 have a1:=bindG_adv HE k
 have a2:=a1.trans (bindsL_adv HE (L.length+1) _ [(bindG L E p).1] (a1.ok k))
 have a3:=a2.trans (Zp (kind:=6) (s:=kIn) by15 (a2.ok k))
 exact a3.trans (HE _ (a3.ok k))
theorem ifG_adv (a:Int) (k:POk L n p):Adv L p (ifG L E a p).2:=by
 have a1:=HE _ k
 have a2:=a1.trans (Zp (kind:=6) (s:=kThen) by15 (a1.ok k))
 have a3:=a2.trans (HE _ (a2.ok k))
 have a4:=a3.trans (Zp (kind:=6) (s:=kElse) by15 (a3.ok k))
 exact a4.trans (HE _ (a4.ok k))
theorem operand_adv (k:POk L n p):Adv L p (operandG L E p).2:=by
 unfold operandG
 by_cases h1:isP L p kBack=true
 ·rw [if_pos h1]
  have a1:=Yh k h1
  exact a1.trans (lambda_adv HE _ _ _ (a1.ok k))
 by_cases h2:isP L p kLet=true
 ·rw [if_neg h1,if_pos h2]
  have a1:=Yh k h2
  by_cases h3:isP L (stepP p) kRec=true
  ·rw [if_pos h3]
   have a2:=a1.trans (Yh (a1.ok k) h3)
   exact a2.trans (letG_adv HE _ _ (a2.ok k))
  rw [if_neg h3];exact a1.trans (letG_adv HE _ _ (a1.ok k))
 by_cases h3:isP L p kIf=true
 ·rw [if_neg h1,if_neg h2,if_pos h3]
  have a1:=Yh k h3
  exact a1.trans (ifG_adv HE _ (a1.ok k))
 rw [if_neg h1,if_neg h2,if_neg h3]
 have a1:=atom_adv HE k
 exact a1.trans (appsL_adv HE _ _ _ _ (a1.ok k))
theorem opsL_adv:∀ (f:Nat) (p:PS) (l:List Ex) (o:List Tok),POk L n p→Adv L p (opsL L E f p l o).2
 | 0,p,l,o,k=>k.refl
 | f+1,p,l,o,k=>by
  unfold opsL
  by_cases h:(nxt L p).k=5
  ·rw [if_pos h]
   have a1:=Zp (L:=L) (kind:=5) (s:=kE) by15 k
   have a2:=a1.trans (operand_adv HE (a1.ok k))
   exact a2.trans (opsL_adv f _ _ _ (a2.ok k))
  rw [if_neg h];exact k.refl
end exps
theorem join_adv {y:(List Ex × List Tok) × PS} (k:POk L (n+1) p) (he:p.e=0) (h:Adv L (deeperP L p) y.2):Adv L p (joinE y).2:=by
 have kq:=deeper_ok k he
 obtain ⟨d1,d2⟩:=deeper_at (L:=L) (p:=p)
 unfold joinE
 by_cases h1:y.2.e≠0
 ·rw [if_pos h1]
  unfold Adv at *
  exact ⟨by dsimp only;omega,h.2.1,by dsimp only;omega,h.2.2.2.1,fun e=>absurd e h1⟩
 rw [if_neg h1]
 by_cases h2:0≤clashP y.1.2
 ·rw [if_pos h2]
  have a:=h.trans (fail_adv (e:=112) (wh:=((y.1.2[(clashP y.1.2).toNat]?).getD (tok0 0)).a) (h.ok kq) by15)
  have hn:=fail_ne (p:=y.2) (e:=112) (wh:=((y.1.2[(clashP y.1.2).toNat]?).getD (tok0 0)).a) by15
  unfold Adv at *
  exact ⟨by dsimp only;omega,a.2.1,by dsimp only;omega,a.2.2.2.1,fun e=>absurd e hn⟩
 rw [if_neg h2];exact dec_adv he h
theorem expF_adv:∀ (n:Nat) (p:PS),POk L n p→Adv L p (expF L n p).2
 | 0,p,k=>k.refl
 | n+1,p,k=>by
  unfold expF
  by_cases he:p.e≠0
  ·rw [if_pos he];exact k.refl
  rw [if_neg he]
  have he:p.e=0:=Classical.not_not.1 he
  have kq:=deeper_ok k he
  have HE:=expF_adv n
  have a1:=operand_adv HE kq
  exact join_adv k he (a1.trans (opsL_adv HE _ _ _ _ (a1.ok kq)))
theorem expP_adv (k:POk L n p):Adv L p (expP L p).2:=expF_adv 302 p (k.up by15)
theorem expP_adv':∀ p,POk L 302 p→Adv L p (expP L p).2:=fun _ k=>expP_adv k
end
open Go.RowKit
abbrev MCall (P:Program) (f:FuncId) (vs:List AV) (r:Res) (v:AV) (r':Res):Prop:=ACall P f vs [r] (fun u M'=>u=v∧M'=[r'])
abbrev MayCall (P:Program) (f:FuncId) (vs:List AV) (r:Res) (p:Prop) (r':Res):Prop:=ACall P f vs [r] (fun u M'=>(p∧u=.val (.bool true)∧M'=[r'])∨(¬ p∧u=.val (.bool false)∧M'=[r]))
section
variable {P:Program} {al:Sl} {M:Mem} {K:AV→Mem→Prop} {o:Oper}
theorem set_perm {M:Mem} {i:Nat} {r r':Res} (h:M[i]?=some r):(r'::M.eraseIdx i).Perm (M.set i r'):=by
 have hi:i<M.length:=get_lt h
 have:=perm_at (M:=M.set i r') (i:=i) (r:=r') (by simp [hi])
 rw [List.eraseIdx_set_eq] at this
 exact this.symm
theorem pick_one {M:Mem} {i:Nat} {r:Res} (h:M[i]?=some r):pick [i] M=some ([r],M.eraseIdx i):=by
 simp [pick,h]
theorem OpT.permd {K0:AV→Mem→Prop} (h:OpT P o al M K0) (q:∀ v M',K0 v M'→∃ M2,M'.Perm M2∧K v M2):OpT P o al M K:=by
 intro n B F Mf a w hi hs ro
 refine Oper.wpIn_mono ?_ (h n B F Mf a w hi hs ro)
 rintro a' w' ⟨u,v,M',F',h1,h2,h3,h4,h5,h6⟩
 obtain ⟨M2,hp,hk⟩:=q v M' h2
 exact ⟨u,v,M2,F',h1,hk,h3,h4,h5.perm (hp.append_right Mf),h6⟩
theorem Zh {f:FuncId} {xs:List Operand} {ts:Array TypeId} {vs vs':List AV} (i:Nat) {r r':Res} {v:AV} (ho:o.op=.call { callee:=.value (.func f),args:=xs.toArray,argTypes:=ts }) (hx:xs.mapM al.ev=some vs) (hm:M[i]?=some r) (hc:MCall P f vs' r v r') (hl:Les vs vs') (q:K v (M.set i r')):OpT P o al M K:=by
 refine OpT.permd (op_callat (K:=fun u M'=>u=v∧M'=r'::M.eraseIdx i) [i] ho hx (pick_one hm) hc hl ?_) ?_
 ·rintro u M' ⟨rfl,rfl⟩;exact ⟨rfl,rfl⟩
 rintro u M' ⟨rfl,rfl⟩;exact ⟨_,set_perm hm,q⟩
theorem op_mayc {f:FuncId} {xs:List Operand} {ts:Array TypeId} {vs vs':List AV} (i:Nat) {r r':Res} {p:Prop} (ho:o.op=.call { callee:=.value (.func f),args:=xs.toArray,argTypes:=ts }) (hx:xs.mapM al.ev=some vs) (hm:M[i]?=some r) (hc:MayCall P f vs' r p r') (hl:Les vs vs') (qt:p→K (.val (.bool true)) (M.set i r')) (qf:¬ p→K (.val (.bool false)) M):OpT P o al M K:=by
 refine OpT.permd (op_callat (K:=fun u M'=>(p∧u=.val (.bool true)∧M'=r'::M.eraseIdx i)∨(¬ p∧u=.val (.bool false)∧M'=r::M.eraseIdx i)) [i] ho hx (pick_one hm) hc hl ?_) ?_
 ·rintro u M' (⟨h,rfl,rfl⟩|⟨h,rfl,rfl⟩)
  ·exact .inl ⟨h,Y,Y⟩
  exact .inr ⟨h,Y,Y⟩
 rintro u M' (⟨h,rfl,rfl⟩|⟨h,rfl,rfl⟩)
 ·exact ⟨_,set_perm hm,qt h⟩
 exact ⟨_,(perm_at hm).symm,qf h⟩
theorem Le.nilOwn (m:Nat):Le (.val (.slice none 0 0)) (.own (.slice none 0 0) m []):=fun F u h=>by
 cases h;exact .own _ (.seq0 m none 0 (fun _=>rfl))
theorem c_ownNew {ro:Option Nat} {n:Nat} {ks:List Kont} {Q:Exit→Sl→Mem→Prop} {c:Code} (e:TypeId) (m:Nat) (h:ACode ro P n c (after ro P n ks Q) al (M++[.own e m (.slice none 0 0)])):ACode ro P n c (after ro P n ks Q) al M:=fun B F Mf a w hi hs=>by
 refine h B F Mf a w ?_ hs
 refine (hi.ownNil e m).perm ?_
 have:(Res.own e m (.slice none 0 0)::(M++Mf)).Perm (M++Res.own e m (.slice none 0 0)::Mf):=List.perm_middle.symm
 simpa using this
def tyField (P:Program) (t:TypeId) (f:Nat):Option (TypeId × Nat) :=
 match P.underlying t with
 | some (.struct fs)=>match fs[f]? with
  | some g=>some (g.type,g.offset)
  | none=>none
 | _=>none
theorem op_field1 {x:Operand} {t ft:TypeId} {f fo:Nat} {cs:List AV} {v:AV} (ho:o.op=.field t x f) (ht:tyField P t f=some (ft,fo)) (ha:tyAgg P ft=some none) (hx:al.ev x=some (.agg cs)) (hc:cs[fo]?=some v) (q:K v M):OpT P o al M K :=
 OpT.plain fun n B F Mf ac w hi hs=>by
  have h:=hs.ev hx
  generalize hu:ac.eval x=u at h
  cases h with
  | agg h h1 =>
   rename_i vs
   obtain ⟨y,h2,h3⟩:=h.get hc
   refine ⟨y,_,?_,q,h3⟩
   unfold tyField at ht
   split at ht <;> first|(simp at ht;done)|skip
   rename_i fs hfs
   split at ht <;> first|(simp at ht;done)|skip
   rename_i g hg
   simp only [Option.some.injEq,Prod.mk.injEq] at ht
   obtain ⟨rfl,rfl⟩:=ht
   obtain ⟨a1,a2⟩:=tyAgg_none ha w
   simp [execOp,ho,hu,Instr.field,underlying,hfs,hg,part,asAgg,a1,h2]
end
theorem fail_c (b:Nat) (L:List Tok) (p:PS) (e wh:Int):MCall Try.prog 54 [.ptr b 0,.val (.int .i64 e),.val (.int .i64 wh)] (.loc b (psC L p)) (.tup []) (.loc b (psC L (failP p e wh))):=by
 obtain ⟨a,lv,e0,wh0⟩:=p
 have hf:failP ⟨a,lv,e0,wh0⟩ e wh=if e0=0 then ⟨a,lv,e,wh⟩ else ⟨a,lv,e0,wh0⟩:=rfl
 rw [hf]
 simp only [psC]
 refine Zc Try.func54 Y (by kernel_rfl) Y (Xb Y) ?_
 refine Qan ?_
 refine Qs ?_
 refine QA ?_
 refine Qca ?_
 refine Qi ?_;intro c10 h10
 refine Qa ?_
 obtain ⟨rfl,g10⟩|⟨rfl,g10⟩:=Za h10
 ·refine QaD ?_
  refine go_end ?_
  exact out_none Y (Yu (by simp [g10] <;> rfl)) ⟨Y,Y⟩
 refine Qk ?_
 refine QO ?_
 refine QA ?_
 refine Qdh ?_
 refine Qa ?_
 refine QJ ?_
 refine QA ?_
 refine Qdh ?_
 refine Q0 ?_
 refine go_end ?_
 exact out_none Y (Yu (by simp [g10] <;> rfl)) ⟨Y,Y⟩
theorem take_c (b:Nat) (L:List Tok) (hL:L.length≤100000) (p:PS) (hp:p.at_≤L.length) (kind:Int) (s:ByteArray):MCall Try.prog 39 [.ptr b 0,.val (.int .i64 kind),.val (.string s)] (.loc b (psC L p)) (.agg (takeP L p kind s).1.av) (.loc b (psC L (takeP L p kind s).2)):=by
 have HN:=next_c b L p
 have HF:=fail_c b L p 110 (nxt L p).a
 obtain ⟨t,ht⟩:∃ t,nxt L p=t:=⟨_,rfl⟩
 obtain ⟨r,hr⟩:∃ r,takeP L p kind s=r:=⟨_,rfl⟩
 have hr0:=hr
 unfold takeP at hr
 rw [ht] at HN HF hr
 rw [hr0]
 obtain ⟨a,lv,e0,wh0⟩:=p
 obtain ⟨tk,tt,tn,ta⟩:=t
 have hp:a≤L.length:=hp
 simp only [psC,Tok.av] at HN HF hr ⊢
 refine Zc Try.func39 Y (by kernel_rfl) Y (Xb Y) ?_
 refine Qv ?_
 refine QB ?_;intro b6
 refine Qq ?_
 refine Zb 9 Y Y Y (Yf (xs:=[.tmp 8]) [1] Y Y Y (HN) by3 ?_)
 refine QB ?_;intro b7
 refine QbA ?_
 refine QA ?_
 refine Qa6 ?_
 refine Q5 ?_;intro c14 h14
 refine Qa ?_
 obtain ⟨rfl,g14⟩|⟨rfl,g14⟩:=Za h14
 ·refine QF ?_
  refine QK ?_
  refine Zt 38 ((kind<6∧tk≠kind)∨(6≤kind∧(tk<6∨tt≠s))) ?_ _ _ Y ?_
  ·skip
   refine Qb ?_
   refine Qm ?_;intro c17 h17
   refine Qb ?_
   obtain ⟨rfl,g17⟩|⟨rfl,g17⟩:=Za h17
   ·skip
    refine Qh ?_
    refine Qp ?_
    refine Qc ?_
    refine Qdw ?_;intro c26 h26
    refine Qc ?_
    obtain ⟨rfl,g26⟩|⟨rfl,g26⟩:=Za h26
    ·skip
     refine Qh ?_
     refine QaL ?_
     refine Qba ?_
     refine Qf ?_
     refine Yz Y ?_ by7 by5
     clear HN HF hr;first|(simp_all;done)|grind
    skip
    refine QaE ?_
    refine QcW ?_;intro c30 h30
    refine Qc ?_
    obtain ⟨rfl,g30⟩|⟨rfl,g30⟩:=Za h30
    ·skip
     refine QaE ?_
     refine Qc ?_
     refine Qcp ?_;intro c35 h35
     refine QaO ?_
     refine Yz Y ?_ by7 by5
     clear HN HF hr;first|(simp_all;done)|grind
    skip
    refine Qh ?_
    refine QaO ?_
    refine Yz Y ?_ by7 by5
    clear HN HF hr;first|(simp_all;done)|grind
   skip
   refine QaE ?_
   refine Qc ?_
   refine Qbe ?_;intro c22 h22
   refine Qp ?_
   obtain ⟨rfl,g22⟩|⟨rfl,g22⟩:=Za h22
   ·skip
    refine Qc ?_
    refine Qdw ?_;intro c26 h26
    refine Qc ?_
    obtain ⟨rfl,g26⟩|⟨rfl,g26⟩:=Za h26
    ·skip
     refine Qh ?_
     refine QaL ?_
     refine Qba ?_
     refine Qf ?_
     refine Yz Y ?_ by7 by5
     clear HN HF hr;first|(simp_all;done)|grind
    skip
    refine QaE ?_
    refine QcW ?_;intro c30 h30
    refine Qc ?_
    obtain ⟨rfl,g30⟩|⟨rfl,g30⟩:=Za h30
    ·skip
     refine QaE ?_
     refine Qc ?_
     refine Qcp ?_;intro c35 h35
     refine QaO ?_
     refine Yz Y ?_ by7 by5
     clear HN HF hr;first|(simp_all;done)|grind
    skip
    refine Qh ?_
    refine QaO ?_
    refine Yz Y ?_ by7 by5
    clear HN HF hr;first|(simp_all;done)|grind
   skip
   refine QbV ?_
   refine QaL ?_
   refine QcA ?_
   refine Q1 ?_
   refine Qf ?_
   refine Yz Y ?_ by7 by5
   clear HN HF hr;first|(simp_all;done)|grind
  intro c38 h38
  refine Qe ?_
  obtain ⟨rfl,g38⟩|⟨rfl,g38⟩:=Za h38
  ·refine Q3 ?_
   refine QA ?_
   refine Qa6 ?_
   refine Qb1 ?_
   refine QcL ?_
   refine QG ?_
   refine Qbm ?_
   refine QbH ?_
   refine Qo ?_
   rw [if_neg g14,if_neg g38] at hr;subst hr;exact Zl (i:=1) rfl rfl rfl Zv rfl (Yv _) (Yt _ (Yt _ (Yu rfl))) ⟨rfl,rfl⟩
  refine QaH ?_
  refine Qa8 ?_
  refine Zb 42 Y Y Y (Zh (xs:=[.tmp 39,.const (.int .i64 110),.tmp 41]) (i:=2) Y Y Y (HF) by3 ?_)
  refine QG ?_
  refine Qd7 ?_
  refine QbH ?_
  refine Qo ?_
  rw [if_neg g14,if_pos g38] at hr;subst hr;exact Zl (i:=1) rfl rfl rfl Zv rfl (Yv _) by5 ⟨rfl,rfl⟩
 refine Q7 ?_
 refine Qbm ?_
 refine QbH ?_
 refine Qo ?_
 rw [if_pos g14] at hr;subst hr;exact Zl (i:=1) rfl rfl rfl Zv rfl (Yv _) by5 ⟨rfl,rfl⟩
theorem may_c (b:Nat) (L:List Tok) (hL:L.length≤100000) (p:PS) (s:ByteArray):MayCall Try.prog 71 [.ptr b 0,.val (.string s)] (.loc b (psC L p)) (isP L p s=true) (.loc b (psC L (stepP p))):=by
 have HI:=is_p b L p s
 have hl:=is_lt (L:=L) (p:=p) (s:=s)
 obtain ⟨a,lv,e0,wh0⟩:=p
 simp only [psC] at HI hl ⊢
 refine Zc Try.func71 Y (by kernel_rfl) Y (Xb Y) ?_
 refine Qat ?_
 refine Qal ?_
 refine Zb 7 Y Y Y (op_callkb (xs:=[.tmp 5,.tmp 6]) [0] Y Y Y (HI) by3 ?_);intro c7 h7
 refine Qab ?_;intro c8 h8
 try replace h8:=nott h8 h7
 refine Qa ?_
 obtain ⟨rfl,g8⟩|⟨rfl,g8⟩:=Za h8
 ·refine Qt ?_
  have:=hl (Classical.not_not.1 g8)
  refine Qg ?_
  refine QA ?_
  refine Qca ?_
  refine Qb1 ?_
  refine Qdh ?_
  refine Qa ?_
  refine QC ?_
  exact c_ret (Zg Y Y (Yv _) (Yu Y) (.inl ⟨Classical.not_not.1 g8,Y,Y⟩))
 refine QD ?_
 exact Zg Y Y (Yv _) (MLe.refl _) (.inr ⟨g8,Y,Y⟩)
theorem deeper_c (b:Nat) (L:List Tok) (p:PS) (h1:0≤p.lv) (h2:p.lv≤1000):MCall Try.prog 55 [.ptr b 0] (.loc b (psC L p)) (.tup []) (.loc b (psC L (deeperP L p))):=by
 have HN:=next_c b L { p with lv:=p.lv+1 }
 have HF:=fail_c b L { p with lv:=p.lv+1 } 111 (nxt L { p with lv:=p.lv+1 }).a
 obtain ⟨t,ht⟩:∃ t,nxt L { p with lv:=p.lv+1 }=t:=⟨_,rfl⟩
 obtain ⟨r,hr⟩:∃ r,deeperP L p=r:=⟨_,rfl⟩
 have hr0:=hr
 unfold deeperP at hr
 rw [ht] at HN HF hr
 rw [hr0]
 obtain ⟨a,lv,e0,wh0⟩:=p
 obtain ⟨tk,tt,tn,ta⟩:=t
 simp only [psC,Tok.av] at HN HF hr h1 h2 ⊢
 refine Zc Try.func55 Y (by kernel_rfl) Y (Xb Y) ?_
 refine Qan ?_
 refine Qs ?_
 refine QA ?_
 refine Qca ?_
 refine Qb1 ?_
 refine Qdh ?_
 refine Qq ?_
 refine QA ?_
 refine Qca ?_
 refine Q8 ?_;intro c13 h13
 refine Qa ?_
 obtain ⟨rfl,g13⟩|⟨rfl,g13⟩:=Za h13
 ·refine QaD ?_
  refine go_end ?_
  rw [if_neg by16] at hr;subst hr;exact out_none rfl (Yu rfl) ⟨rfl,rfl⟩
 refine Qk ?_
 refine QJ ?_
 refine Zb 16 Y Y Y (Yf (xs:=[.tmp 15]) [0] Y Y Y (HN) by3 ?_)
 refine Zb 17 Y Y Y (op_field1 (ft:=3) (fo:=3) Y (by kernel_rfl) ta_3 Y Y ?_)
 refine Zb 18 Y Y Y (Zh (xs:=[.tmp 14,.const (.int .i64 111),.tmp 17]) (i:=0) Y Y Y (HF) by3 ?_)
 refine Q0 ?_
 refine go_end ?_
 rw [if_pos by16] at hr;subst hr;exact out_none rfl (Yu rfl) ⟨rfl,rfl⟩
theorem pName_c (b:Nat) (L:List Tok) (hL:L.length≤100000) (n:Nat) (p:PS) (k:POk L n p):MCall Try.prog 90 [.ptr b 0] (.loc b (psC L p)) (.agg (nameP L p).1.av) (.loc b (psC L (nameP L p).2)):=by
 refine Zc Try.func90 Y (by kernel_rfl) Y (Xb Y) ?_
 refine Qv ?_
 refine QB ?_;intro b2
 refine Q2 ?_
 refine Zb 5 Y Y Y (op_mayc (xs:=[.tmp 4,.const (.string ⟨#[40]⟩)]) (i:=1) Y Y Y (may_c b L hL p kLP) by3 ?_ ?_)
 ·intro g5
  refine Qa ?_
  refine Qbd ?_
  have a1:=Yh k g5
  have k1:=a1.ok k
  have a2:=Zp (kind:=5) (s:=kE) by15 k1
  have k2:=a2.ok k1
  refine Qg ?_
  refine Zb 7 Y Y Y (Zh (xs:=[.tmp 6,.const (.int .i64 5),.const (.string ⟨#[]⟩)]) (i:=1) Y Y Y (take_c b L hL _ k1.1 5 kE) by3 ?_)
  refine QB ?_;intro b3
  refine Qai ?_
  refine Qq ?_
  refine Zb 9 Y Y Y (Zh (xs:=[.tmp 8,.const (.int .i64 7),.const (.string ⟨#[41]⟩)]) (i:=2) Y Y Y (take_c b L hL _ k2.1 7 kRP) by3 ?_)
  refine QG ?_
  refine Qbm ?_
  refine QbH ?_
  refine Qo ?_
  rw [nameP,if_pos g5];exact Zl (i:=1) rfl rfl rfl Zv rfl (Yv _) (Yt _ (Yt _ (Yu rfl))) ⟨rfl,rfl⟩
 intro g5
 refine Qa ?_
 refine Q3 ?_
 refine Zb 12 Y Y Y (Zh (xs:=[.tmp 11,.const (.int .i64 1),.const (.string ⟨#[]⟩)]) (i:=1) Y Y Y (take_c b L hL _ k.1 1 kE) by3 ?_)
 refine Qai ?_
 refine Qo ?_
 rw [nameP,if_neg g5];exact Zl (i:=0) rfl rfl rfl Zv rfl (Yv _) (Yt _ (Yu rfl)) ⟨rfl,rfl⟩
theorem starts_c (b:Nat) (L:List Tok) (p:PS) (what:Int):KBCall Try.prog 75 [.ptr b 0,.val (.int .i64 what)] [.loc b (psC L p)] (startsP L what p):=by
 have HN:=next_c b L p
 have H1:=is_p b L p kLP
 have H2:=is_p b L p kUn
 have H3:=is_p b L p kCase
 unfold startsP
 generalize isP L p kLP=x1 at *
 generalize isP L p kUn=x2 at *
 generalize isP L p kCase=x3 at *
 obtain ⟨⟨tk,tt,tn,ta⟩,ht⟩:∃ t,nxt L p=t:=⟨_,rfl⟩
 rw [ht] at HN ⊢
 simp only [Tok.av] at HN ⊢
 refine Zc Try.func75 Y (by kernel_rfl) Y (Xb Y) ?_
 refine Qat ?_
 refine Qs ?_
 refine Zb 7 Y Y Y (Yf (xs:=[.tmp 6]) [0] Y Y Y (HN) by3 ?_)
 refine QcM ?_
 refine Qbx ?_
 refine Zt 18 (tk=1∨tk=2∨x1=true) ?_ _ _ Y ?_
 ·skip
  refine QbU ?_;intro c10 h10
  refine Qb ?_
  obtain ⟨rfl,g10⟩|⟨rfl,g10⟩:=Za h10
  ·skip
   refine QW ?_;intro c13 h13
   refine Qp ?_
   obtain ⟨rfl,g13⟩|⟨rfl,g13⟩:=Za h13
   ·skip
    refine Qc ?_
    refine Zk 17 Y Y Y Y Y (op_callkb (xs:=[.tmp 16,.const (.string ⟨#[40]⟩)]) [0] Y Y Y (H1) by3 ?_);intro c17 h17
    refine Qf ?_
    refine Yz Y ?_ by7 by5
    clear HN H1 H2 H3;first|(simp_all;done)|grind
   skip
   refine Qae ?_
   refine Yz Y ?_ by7 by5
   clear HN H1 H2 H3;first|(simp_all;done)|grind
  skip
  refine QaN ?_
  refine Qae ?_
  refine Yz Y ?_ by7 by5
  clear HN H1 H2 H3;first|(simp_all;done)|grind
 intro c18 h18
 refine Qe ?_
 obtain ⟨rfl,g18⟩|⟨rfl,g18⟩:=Za h18
 ·refine Qt ?_
  refine Zt 4 ((1≤what∧tk=3)∨(what=1∧x2=true)∨(what=2∧(tk=4∨x3=true))) ?_ _ _ Y ?_
  ·skip
   refine QbT ?_;intro c20 h20
   refine Qb ?_
   obtain ⟨rfl,g20⟩|⟨rfl,g20⟩:=Za h20
   ·skip
    refine QaN ?_
    refine QW ?_;intro c27 h27
    refine Qc ?_
    obtain ⟨rfl,g27⟩|⟨rfl,g27⟩:=Za h27
    ·skip
     refine QZ ?_
     refine QX ?_
     refine Qp ?_
     refine QW ?_;intro c35 h35
     refine Qc ?_
     obtain ⟨rfl,g35⟩|⟨rfl,g35⟩:=Za h35
     ·skip
      refine Qad ?_
      refine QaC ?_
      refine Qba ?_
      refine Qz ?_
      refine Yz Y ?_ by7 by5
      clear HN H1 H2 H3;first|(simp_all;done)|grind
     skip
     refine QW ?_;intro c38 h38
     refine Qc ?_
     obtain ⟨rfl,g38⟩|⟨rfl,g38⟩:=Za h38
     ·skip
      refine Qc ?_
      refine Zk 41 Y Y Y Y Y (op_callkb (xs:=[.tmp 40,.const (.string ⟨#[99,97,115,101]⟩)]) [0] Y Y Y (H3) by3 ?_);intro c41 h41
      refine QbD ?_
      refine Yz Y ?_ by7 by5
      clear HN H1 H2 H3;first|(simp_all;done)|grind
     skip
     refine QZ ?_
     refine QbD ?_
     refine Yz Y ?_ by7 by5
     clear HN H1 H2 H3;first|(simp_all;done)|grind
    skip
    refine Qc ?_
    refine Zk 30 Y Y Y Y Y (op_callkb (xs:=[.tmp 29,.const (.string ⟨#[95]⟩)]) [0] Y Y Y (H2) by3 ?_);intro c30 h30
    refine QX ?_
    refine Qp ?_
    obtain ⟨rfl,g30⟩|⟨rfl,g30⟩:=Za h30
    ·skip
     refine QW ?_;intro c35 h35
     refine Qc ?_
     obtain ⟨rfl,g35⟩|⟨rfl,g35⟩:=Za h35
     ·skip
      refine Qad ?_
      refine QaC ?_
      refine Qba ?_
      refine Qz ?_
      refine Yz Y ?_ by7 by5
      clear HN H1 H2 H3;first|(simp_all;done)|grind
     skip
     refine QW ?_;intro c38 h38
     refine Qc ?_
     obtain ⟨rfl,g38⟩|⟨rfl,g38⟩:=Za h38
     ·skip
      refine Qc ?_
      refine Zk 41 Y Y Y Y Y (op_callkb (xs:=[.tmp 40,.const (.string ⟨#[99,97,115,101]⟩)]) [0] Y Y Y (H3) by3 ?_);intro c41 h41
      refine QbD ?_
      refine Yz Y ?_ by7 by5
      clear HN H1 H2 H3;first|(simp_all;done)|grind
     skip
     refine QZ ?_
     refine QbD ?_
     refine Yz Y ?_ by7 by5
     clear HN H1 H2 H3;first|(simp_all;done)|grind
    skip
    refine QbV ?_
    refine QaC ?_
    refine Q1 ?_
    refine Qz ?_
    refine Yz Y ?_ by7 by5
    clear HN H1 H2 H3;first|(simp_all;done)|grind
   skip
   refine QW ?_;intro c23 h23
   refine Qp ?_
   obtain ⟨rfl,g23⟩|⟨rfl,g23⟩:=Za h23
   ·skip
    refine QW ?_;intro c27 h27
    refine Qc ?_
    obtain ⟨rfl,g27⟩|⟨rfl,g27⟩:=Za h27
    ·skip
     refine QZ ?_
     refine QX ?_
     refine Qp ?_
     refine QW ?_;intro c35 h35
     refine Qc ?_
     obtain ⟨rfl,g35⟩|⟨rfl,g35⟩:=Za h35
     ·skip
      refine Qad ?_
      refine QaC ?_
      refine Qba ?_
      refine Qz ?_
      refine Yz Y ?_ by7 by5
      clear HN H1 H2 H3;first|(simp_all;done)|grind
     skip
     refine QW ?_;intro c38 h38
     refine Qc ?_
     obtain ⟨rfl,g38⟩|⟨rfl,g38⟩:=Za h38
     ·skip
      refine Qc ?_
      refine Zk 41 Y Y Y Y Y (op_callkb (xs:=[.tmp 40,.const (.string ⟨#[99,97,115,101]⟩)]) [0] Y Y Y (H3) by3 ?_);intro c41 h41
      refine QbD ?_
      refine Yz Y ?_ by7 by5
      clear HN H1 H2 H3;first|(simp_all;done)|grind
     skip
     refine QZ ?_
     refine QbD ?_
     refine Yz Y ?_ by7 by5
     clear HN H1 H2 H3;first|(simp_all;done)|grind
    skip
    refine Qc ?_
    refine Zk 30 Y Y Y Y Y (op_callkb (xs:=[.tmp 29,.const (.string ⟨#[95]⟩)]) [0] Y Y Y (H2) by3 ?_);intro c30 h30
    refine QX ?_
    refine Qp ?_
    obtain ⟨rfl,g30⟩|⟨rfl,g30⟩:=Za h30
    ·skip
     refine QW ?_;intro c35 h35
     refine Qc ?_
     obtain ⟨rfl,g35⟩|⟨rfl,g35⟩:=Za h35
     ·skip
      refine Qad ?_
      refine QaC ?_
      refine Qba ?_
      refine Qz ?_
      refine Yz Y ?_ by7 by5
      clear HN H1 H2 H3;first|(simp_all;done)|grind
     skip
     refine QW ?_;intro c38 h38
     refine Qc ?_
     obtain ⟨rfl,g38⟩|⟨rfl,g38⟩:=Za h38
     ·skip
      refine Qc ?_
      refine Zk 41 Y Y Y Y Y (op_callkb (xs:=[.tmp 40,.const (.string ⟨#[99,97,115,101]⟩)]) [0] Y Y Y (H3) by3 ?_);intro c41 h41
      refine QbD ?_
      refine Yz Y ?_ by7 by5
      clear HN H1 H2 H3;first|(simp_all;done)|grind
     skip
     refine QZ ?_
     refine QbD ?_
     refine Yz Y ?_ by7 by5
     clear HN H1 H2 H3;first|(simp_all;done)|grind
    skip
    refine QbV ?_
    refine QaC ?_
    refine Q1 ?_
    refine Qz ?_
    refine Yz Y ?_ by7 by5
    clear HN H1 H2 H3;first|(simp_all;done)|grind
   skip
   refine Qad ?_
   refine QaC ?_
   refine Q1 ?_
   refine Qp ?_
   refine QbV ?_
   refine QaC ?_
   refine Q1 ?_
   refine Qz ?_
   refine Yz Y ?_ by7 by5
   clear HN H1 H2 H3;first|(simp_all;done)|grind
  intro c4 h4
  refine QV ?_
  exact Zg Y Y (Yv _) (MLe.refl _) ⟨⟨_,by clear HN H1 H2 H3;grind,Y⟩,Y⟩
 refine QD ?_
 exact Zg Y Y (Yv _) (MLe.refl _) ⟨⟨_,by clear HN H1 H2 H3;grind,Y⟩,Y⟩
theorem typesL_go {L:List Tok} {T:PS→Ty × PS} {f:Nat} {p:PS} {acc:List Ty} (h:startsP L 0 p):typesL L T (f+1) p acc=typesL L T f (atypeG L T p).2 (acc++[(atypeG L T p).1]):=by rw [typesL,if_pos h]
theorem typesL_end {L:List Tok} {T:PS→Ty × PS} {f:Nat} {p:PS} {acc:List Ty} (h:¬ startsP L 0 p):typesL L T f p acc=(acc,p):=by
 cases f with
 | zero=>rfl
 | succ f=>rw [typesL,if_neg h]
abbrev zTyp:List AV:=[.val (.int .i64 0),.val (.string kE),.val (.int .i64 0),.val (.slice none 0 0)]
def TyC (b:Nat) (L:List Tok) (n:Nat) (T:PS→Ty × PS):Prop:=∀ q,POk L n q→MCall Try.prog 92 [.ptr b 0] (.loc b (psC L q)) (.agg (T q).1.cells) (.loc b (psC L (T q).2))
theorem atype_c (b:Nat) (L:List Tok) (hL:L.length≤100000) (n:Nat) (T:PS→Ty × PS) (HT:TyC b L n T) (HA:∀ q,POk L n q→Adv L q (T q).2) (p:PS) (k:POk L n p):MCall Try.prog 96 [.ptr b 0] (.loc b (psC L p)) (.agg (atypeG L T p).1.cells) (.loc b (psC L (atypeG L T p).2)):=by
 have HN:=next_c b L p
 have hp:=k.1
 have a1:=Zp (L:=L) (kind:=7) (s:=kLP) by15 k
 have k1:=a1.ok k
 obtain ⟨t,ht⟩:∃ t,nxt L p=t:=⟨_,rfl⟩
 obtain ⟨r,hr⟩:∃ r,atypeG L T p=r:=⟨_,rfl⟩
 have hr0:=hr
 unfold atypeG at hr
 rw [ht] at HN hr
 rw [hr0]
 obtain ⟨tk,tt,tn,ta⟩:=t
 simp only [Tok.av] at HN hr
 refine Zc Try.func96 Y (by kernel_rfl) Y (Xb Y) ?_
 refine Qv ?_
 refine Qct ?_;intro b2
 refine Qq ?_
 refine Zb 6 Y Y Y (Yf (xs:=[.tmp 5]) [1] Y Y Y (HN) by3 ?_)
 refine QB ?_;intro b3
 refine Qai ?_
 refine QbC ?_
 refine Qi ?_;intro c9 h9
 refine Qa ?_
 obtain ⟨rfl,g9⟩|⟨rfl,g9⟩:=Za h9
 ·refine Qt ?_
  refine Qag ?_
  refine Qi ?_;intro c22 h22
  refine Qa ?_
  obtain ⟨rfl,g22⟩|⟨rfl,g22⟩:=Za h22
  ·refine Q3 ?_
   refine Zb 34 Y Y Y (Zh (xs:=[.tmp 33,.const (.int .i64 7),.const (.string ⟨#[40]⟩)]) (i:=2) Y Y Y (take_c b L hL p k.1 7 kLP) by3 ?_)
   refine Q2 ?_
   refine Zb 36 Y Y Y (op_mayc (xs:=[.tmp 35,.const (.string ⟨#[41]⟩)]) (i:=2) Y Y Y (may_c b L hL (takeP L p 7 kLP).2 kRP) by3 ?_ ?_)
   ·intro g36
    refine Qa ?_
    refine Q7 ?_
    refine Zb 37 Y Y Y (Zi (ns:=[0,1]) (xs:=[.const (.int .i64 3),.const (.string ⟨#[85,110,105,116]⟩)]) Y tz_30 Y tfl_30 Y Y Y Y ?_)
    refine QdB ?_
    refine Qo ?_
    rw [if_neg g9,if_neg g22,if_pos g36] at hr;subst hr;exact Zl (i:=1) rfl rfl rfl ta_30 rfl by4 (Yt _ (Yt _ (Yu rfl))) ⟨rfl,rfl⟩
   intro g36
   refine Qa ?_
   refine Qt ?_
   have HT1:=HT _ k1
   have k2:=(HA _ k1).ok k1
   rw [if_neg g9,if_neg g22,if_neg g36] at hr
   obtain ⟨⟨⟨xk,xs,xn,xl⟩,p3⟩,hx⟩:∃ r,T (takeP L p 7 kLP).2=r:=⟨_,rfl⟩
   rw [hx] at HT1 hr k2
   simp only [Ty.cells] at HT1
   refine Qg ?_
   refine Zb 39 Y Y Y (Zh (xs:=[.tmp 38]) (i:=2) Y Y Y (HT1) by3 ?_)
   refine Qct ?_;intro b4
   refine Qcu ?_
   refine Qq ?_
   refine Zb 41 Y Y Y (Zh (xs:=[.tmp 40,.const (.int .i64 7),.const (.string ⟨#[41]⟩)]) (i:=3) Y Y Y (take_c b L hL _ k2.1 7 kRP) by3 ?_)
   refine QG ?_
   refine Qcv ?_
   refine QdC ?_
   refine Qo ?_
   subst hr;exact Zl (i:=2) rfl rfl rfl ta_30 rfl (Yv _) (Yt _ (Yt _ (Yt _ (Yu rfl)))) ⟨rfl,rfl⟩
  refine QaH ?_
  refine QA ?_
  refine Qa6 ?_
  refine Qb1 ?_
  refine QcL ?_
  refine QbE ?_
  refine Zb 32 Y Y Y (Zi (ns:=[0,1]) (xs:=[.const (.int .i64 1),.tmp 31]) Y tz_30 Y tfl_30 Y Y Y Y ?_)
  refine QdB ?_
  refine Qo ?_
  rw [if_neg g9,if_pos g22] at hr;subst hr;exact Zl (i:=1) rfl rfl rfl ta_30 rfl by4 (Yt _ (Yt _ (Yu rfl))) ⟨rfl,rfl⟩
 refine QaH ?_
 refine QA ?_
 refine Qa6 ?_
 refine Qb1 ?_
 refine QcL ?_
 refine QbE ?_
 refine Zb 19 Y Y Y (Zi (ns:=[0,1]) (xs:=[.const (.int .i64 3),.tmp 18]) Y tz_30 Y tfl_30 Y Y Y Y ?_)
 refine QdB ?_
 refine Qo ?_
 rw [if_pos g9] at hr;subst hr;exact Zl (i:=1) rfl rfl rfl ta_30 rfl by4 (Yt _ (Yt _ (Yu rfl))) ⟨rfl,rfl⟩
theorem Type_err (b:Nat) (L:List Tok) (p:PS) (he:p.e≠0):MCall Try.prog 92 [.ptr b 0] (.loc b (psC L p)) (.agg ty0.cells) (.loc b (psC L p)):=by
 refine Zc Try.func92 Y (by kernel_rfl) Y (Xb Y) ?_
 refine Qv ?_
 refine Qct ?_;intro b2
 refine Q2 ?_
 refine QA ?_
 refine Qao ?_
 refine Q5 ?_;intro c9 h9
 refine Qa ?_
 obtain ⟨rfl,g9⟩|⟨rfl,g9⟩:=Za h9
 ·exact absurd he g9
 refine Q7 ?_
 refine Qd8 ?_
 refine Qcu ?_
 refine Qo ?_
 exact Zl (i:=0) Y Y Y ta_30 Y by4 (Yt _ (MLe.refl _)) ⟨Y,Y⟩
theorem Type_ok (b:Nat) (L:List Tok) (hL:L.length≤100000) (n:Nat) (T:PS→Ty × PS) (HT:TyC b L n T) (HA:∀ q,POk L n q→Adv L q (T q).2) (p:PS) (k:POk L (n+1) p) (he:p.e=0):MCall Try.prog 92 [.ptr b 0] (.loc b (psC L p)) (.agg (typeR L T (typeH L T (deeperP L p))).1.cells) (.loc b (psC L (typeR L T (typeH L T (deeperP L p))).2)):=by
 have kq:=deeper_ok k he
 have HN:=next_c b L (deeperP L p)
 have hq0:=kq.1
 have aH:=typeH_adv HA kq
 have kH:=aH.ok kq
 obtain ⟨t,ht⟩:∃ t,nxt L (deeperP L p)=t:=⟨_,rfl⟩
 have hkt:(nxt L (deeperP L p)).k=2→(deeperP L p).at_<L.length:=fun e=>(nxt_in by16).2
 have HAT:=atype_c b L hL n T HT HA (deeperP L p) kq
 obtain ⟨⟨⟨xk,xs,xn,xl⟩,q1⟩,hx⟩:∃ r,typeH L T (deeperP L p)=r:=⟨_,rfl⟩
 have hx0:=hx
 unfold typeH at hx
 rw [hx0] at kH ⊢
 simp only [] at kH
 obtain ⟨r,hr⟩:∃ r,typeR L T (Ty.mk xk xs xn xl,q1)=r:=⟨_,rfl⟩
 rw [hr]
 unfold typeR at hr
 simp only [] at hr
 rw [ht] at HN hx hkt
 obtain ⟨tk,tt,tn,ta⟩:=t
 simp only [Tok.av] at HN hx hkt
 refine Zc Try.func92 Y (by kernel_rfl) Y (Xb Y) ?_
 refine Qv ?_
 refine Qct ?_;intro b2
 refine Q2 ?_
 refine QA ?_
 refine Qao ?_
 refine Q5 ?_;intro c9 h9
 refine Qa ?_
 obtain ⟨rfl,g9⟩|⟨rfl,g9⟩:=Za h9
 ·refine Q3 ?_
  refine Zb 12 Y Y Y (Zh (xs:=[.tmp 11]) (i:=1) Y Y Y (deeper_c b L p k.2.1 (by have:=k.2.2.1;omega)) by3 ?_)
  refine Qq ?_
  refine Zb 14 Y Y Y (Yf (xs:=[.tmp 13]) [1] Y Y Y (HN) by3 ?_)
  refine QB ?_;intro b3
  refine Qai ?_
  refine QG ?_
  refine Qd8 ?_
  refine Qct ?_;intro b4
  refine Qcu ?_
  refine QL ?_
  refine QaV ?_
  refine Qi ?_;intro c18 h18
  refine Qa ?_
  apply c_joink (rg [(1,1),(3,1),(5,35)]) (σ:=Unit) (fun zz=>match zz with|z=>[]) (fun zz=>match zz with|z=>[.loc b4 (Ty.mk xk xs xn xl).cells,.loc b3 (Tok.mk tk tt tn ta).av,.loc b2 zTyp,.loc b (psC L q1)]) (fun zz=>match zz with|z=>True)
  ·repeat' (first|exact Xe|apply Xc rfl|apply Xd rfl)
  ·skip
   obtain ⟨rfl,g18⟩|⟨rfl,g18⟩:=Za h18
   ·refine QP ?_
    rw [if_neg g18] at hx
    rw [hx] at HAT
    simp only [Ty.cells] at HAT
    refine Qg ?_
    refine Zb 39 Y Y Y (Zh (xs:=[.tmp 38]) (i:=3) Y Y Y (HAT) by3 ?_)
    refine Qcu ?_
    refine Q0 ?_
    refine go_lp ?_
    first|exact ⟨(),trivial,by6,Yu rfl⟩|(rw [typesL_end g30] at hu;cases hu;exact ⟨(),trivial,by6,MLe.loc _ (Yx (Yv _) (Yx (Yv _) (Yx (Yv _) (Yx (Le.own _ _ _) (Yw _))))) (Ys _ (Ys _ (Ys _ (Yr _))))⟩)
   refine Qbd ?_
   rw [if_pos g18] at hx
   have hlt:=hkt g18
   have ks:=Yq kq hlt
   refine Qg ?_
   refine QA ?_
   refine Qcw ?_
   refine Qb1 ?_
   refine QcN ?_
   refine Qa ?_
   refine QaV ?_
   refine Zb 28 Y Y Y (Zi (ns:=[0,1]) (xs:=[.const (.int .i64 3),.tmp 27]) Y tz_30 Y tfl_30 Y Y Y Y ?_)
   refine Qcu ?_
   refine Qa ?_
   refine Qa3 ?_
   refine c_ownNew 30 4 ?_
   apply Yn (rg [(1,1),(3,1),(5,35)]) (σ:=PS × Nat × List Ty × Value) (fun zz=>match zz with|(q,f,acc,u)=>[]) (fun zz=>match zz with|(q,f,acc,u)=>[.loc b4 [.val (.int .i64 3),.val (.string tt),.val (.int .i64 0),.own u 4 (Ty.cellss acc)],.loc b3 (Tok.mk tk tt tn ta).av,.loc b2 zTyp,.loc b (psC L q),.own 30 4 u]) (fun zz=>match zz with|(q,f,acc,u)=>POk L n q∧L.length - q.at_<f∧acc.length≤q.at_∧(Ty.mk 3 tt 0 (typesL L T f q acc).1,(typesL L T f q acc).2)=((Ty.mk xk xs xn xl),q1)) (fun zz=>match zz with|(q,f,acc,u)=>f) ((stepP (deeperP L p),L.length+1,[],.slice none 0 0))
   ·repeat' (first|exact Xe|apply Xc rfl|apply Xd rfl)
   ·exact ⟨ks.ok kq,by omega,Nat.zero_le _,hx⟩
   ·exact by6
   ·exact (MLe.loc _ (Yx (Yv _) (Yx (Yv _) (Yx (Yv _) (Yx (Le.nilOwn 4) (Yw _))))) (Ys _ (Ys _ (Yu Y))))
   rintro ⟨q,f,acc,u⟩ hI
   try dsimp only [List.cons_append,List.nil_append] at hI ⊢
   obtain ⟨h1,h2,h3,hu⟩:=hI
   have hq1:=h1.1
   have hle:(Ty.cellss acc).length≤200000:=by rw [Ty.cellss_len];omega
   refine QU ?_
   refine Zb 30 Y Y Y (op_callkb (xs:=[.tmp 29,.const (.int .i64 0)]) [3] Y Y Y (starts_c b L q 0) by3 ?_);intro c30 h30
   refine Qa ?_
   obtain ⟨rfl,g30⟩|⟨rfl,g30⟩:=Za h30
   ·refine QP ?_
    refine c_exit (x_code (x_lp (x_here (go_lp ?_))))
    first|exact ⟨(),trivial,by6,Yu rfl⟩|(rw [typesL_end g30] at hu;cases hu;exact ⟨(),trivial,by6,MLe.loc _ (Yx (Yv _) (Yx (Yv _) (Yx (Yv _) (Yx (Le.own _ _ _) (Yw _))))) (Ys _ (Ys _ (Ys _ (Yr _))))⟩)
   refine QaG ?_
   obtain ⟨f,rfl⟩:∃ f',f=f'+1:=⟨f - 1,by omega⟩
   rw [typesL_go g30] at hu
   have b1:=atype_lt HA h1 g30
   have b2:=atype_adv HA h1
   have l2:=b2.ok h1
   have HA2:=atype_c b L hL n T HT HA q h1
   obtain ⟨⟨⟨yk,ys,yn,yl⟩,q2⟩,e2⟩:∃ r,atypeG L T q=r:=⟨_,rfl⟩
   rw [e2] at HA2 hu l2 b1
   simp only [Ty.cells] at HA2
   simp only [] at b1 l2
   have l3:=l2.1
   refine Qcx ?_
   refine Qb2 ?_
   refine Zz 3 (i:=3) Y Y Y Y Y (Zh (xs:=[.tmp 33]) (i:=0) Y Y Y (HA2) by3 ⟨_,Y,?_⟩)
   refine Zf 35 (none) (i:=4) Y Y Y Y Y (Ze (xs:=[.tmp 34]) el_28 Y Y Y Y Y Y (Xb Y) ⟨Y,Y⟩) ?_
   refine Zz 4 (i:=5) Y Y Y Y Y (Zu (i:=0) el_28 Y Y Y Y (.seq _ _) by8 (fun u36=>⟨_,Y,?_⟩))
   refine QR ?_
   refine Zz 0 (i:=7) Y Y Y Y Y (Zm (cs':=[_,_,_,_]) (i:=0) Y ts_28 Y Y Y Y Y (Xb Y) Y ⟨_,Y,?_⟩)
   show AGo _ _ _ _ _ _ _
   refine Qak ?_
   refine ⟨(q2,f,acc++[Ty.mk yk ys yn yl],u36),⟨l2,(by show L.length - q2.at_<f;omega),(by show (acc++[Ty.mk yk ys yn yl]).length≤q2.at_;rw [List.length_append];simp;omega),hu⟩,Nat.lt_succ_self f,by6,(MLe.loc _ (Yx (Yv _) (Yx (Yv _) (Yx (Yv _) (Yx (Xa (by rw [Ty.cellss_app];rfl)) (Yw _))))) (Ys _ (Ys _ (Yu Y))))⟩
  rintro z hI
  try dsimp only [List.cons_append,List.nil_append] at hI ⊢
  refine Qe ?_
  refine QU ?_
  refine Zb 41 Y Y Y (op_mayc (xs:=[.tmp 40,.const (.string ⟨#[45,62]⟩)]) (i:=3) Y Y Y (may_c b L hL q1 kArrow) by3 ?_ ?_)
  ·intro g41
   refine Qa ?_
   refine Qk ?_
   have ka:=Yh kH g41
   have kz:=ka.ok kH
   have HT1:=HT _ kz
   have kw:=(HA _ kz).ok kz
   obtain ⟨⟨⟨zk,zs,zn,zl⟩,q3⟩,e3⟩:∃ r,T (stepP q1)=r:=⟨_,rfl⟩
   rw [if_pos g41,e3] at hr
   rw [e3] at HT1 kw
   simp only [Ty.cells] at HT1
   simp only [] at kw
   have hb3:=kw.2.1
   have hb4:=kw.2.2.1
   refine Yc [0,1,2,3,4,5] [2,5] [[],[],[1],[0,1,2],[0,1,2,3],[0,1,2,3,4]] tmix Y (Zf 42 (some 0) (i:=0) Y Y Y Y Y (Zx (cs':=[_,_,_,_]) (i:=0) Y ta_30 Y Y Y Y ⟨Y,Y⟩) ?_)
   refine Qr ?_
   refine Zz 3 (i:=2) Y Y Y Y Y (Zh (xs:=[.tmp 43]) (i:=0) Y Y Y (HT1) by3 ⟨_,Y,?_⟩)
   refine Zf 45 (none) (i:=3) Y Y Y Y Y (Ze (xs:=[.tmp 42,.tmp 44]) el_28 Y Y Y Y Y Y (Xb Y) ⟨Y,Y⟩) ?_
   refine Zf 46 (none) (i:=4) Y Y Y Y Y (Zi (ns:=[0,1,3]) (xs:=[.const (.int .i64 3),.const (.string ⟨#[45,62]⟩),.tmp 45]) Y tz_30 Y tfl_30 Y Y Y Y ⟨Y,Y⟩) ?_
   refine Zz 0 (i:=5) Y Y Y Y Y (Zm (cs':=[_,_,_,_]) (i:=0) Y ts_30 Y Y Y Y Y (Xb Y) Y ⟨_,Y,?_⟩)
   show AGo _ _ _ _ _ _ _
   refine QaP ?_
   have hb1:=kH.2.1
   have hb2:=kH.2.2.1
   refine Qg ?_
   refine QA ?_
   refine Qcw ?_
   refine QT ?_
   refine QA ?_
   refine QcN ?_
   refine QG ?_
   refine Qcv ?_
   refine QdC ?_
   refine Qo ?_
   subst hr;exact Zl (i:=2) rfl rfl rfl ta_30 rfl (Yv _) (Yt _ (Yt _ (Yt _ (Yu rfl)))) ⟨rfl,rfl⟩
  intro g41
  refine Qa ?_
  refine Qt ?_
  have hb1:=kH.2.1
  have hb2:=kH.2.2.1
  refine Qg ?_
  refine QA ?_
  refine Qcw ?_
  refine QT ?_
  refine QA ?_
  refine QcN ?_
  refine QG ?_
  refine Qcv ?_
  refine QdC ?_
  refine Qo ?_
  rw [if_neg g41] at hr;subst hr;exact Zl (i:=2) rfl rfl rfl ta_30 rfl (Yv _) (Yt _ (Yt _ (Yt _ (Yu rfl)))) ⟨rfl,rfl⟩
 exact absurd he g9
theorem Type_c (b:Nat) (L:List Tok) (hL:L.length≤100000):∀ n,TyC b L n (typeF L n)
 | 0,p,k=>Type_err b L p (fun e=>by have:=k.2.2.2 e;omega)
 | n+1,p,k=>by
  by_cases he:p.e=0
  ·have h:=Type_ok b L hL n (typeF L n) (Type_c b L hL n) (typeF_adv n) p k he
   rw [typeF,if_neg (by rw [he];simp)]
   exact h
  rw [typeF,if_pos he];exact Type_err b L p he
theorem typeP_c (b:Nat) (L:List Tok) (hL:L.length≤100000) (n:Nat) (p:PS) (k:POk L n p):MCall Try.prog 92 [.ptr b 0] (.loc b (psC L p)) (.agg (typeP L p).1.cells) (.loc b (psC L (typeP L p).2)):=Type_c b L hL 302 p (k.up by15)
theorem patsL_go {L:List Tok} {T:PS→Pa × PS} {f:Nat} {p:PS} {acc:List Pa} (h:startsP L 1 p):patsL L T (f+1) p acc=patsL L T f (apatG L T p).2 (acc++[(apatG L T p).1]):=by rw [patsL,if_pos h]
theorem patsL_end {L:List Tok} {T:PS→Pa × PS} {f:Nat} {p:PS} {acc:List Pa} (h:¬ startsP L 1 p):patsL L T f p acc=(acc,p):=by
 cases f with
 | zero=>rfl
 | succ f=>rw [patsL,if_neg h]
theorem Pa.cellss_app' (a b:List Pa):Pa.cellss (a++b)=Pa.cellss a++Pa.cellss b:=by simp [Pa.cellss_map]
abbrev zPa:List AV:=[.val (.int .i64 0),.val (.string kE),.val (.int .i64 0),.val (.slice none 0 0),.val (.int .i64 0)]
def PaC (b:Nat) (L:List Tok) (n:Nat) (T:PS→Pa × PS):Prop:=∀ q,POk L n q→MCall Try.prog 91 [.ptr b 0] (.loc b (psC L q)) (.agg (T q).1.cells) (.loc b (psC L (T q).2))
theorem apat_c (b:Nat) (L:List Tok) (hL:L.length≤100000) (n:Nat) (T:PS→Pa × PS) (HT:PaC b L n T) (HA:∀ q,POk L n q→Adv L q (T q).2) (p:PS) (k:POk L n p):MCall Try.prog 95 [.ptr b 0] (.loc b (psC L p)) (.agg (apatG L T p).1.cells) (.loc b (psC L (apatG L T p).2)):=by
 have HN:=next_c b L p
 have HI:=is_p b L p kUn
 have hp:=k.1
 have a1:=Zp (L:=L) (kind:=7) (s:=kLP) by15 k
 have k1:=a1.ok k
 have hkt:(nxt L p).k≠0→p.at_<L.length:=fun e=>(nxt_in e).2
 have hki:isP L p kUn=true→p.at_<L.length:=fun e=>(is_lt e).2
 obtain ⟨t,ht⟩:∃ t,nxt L p=t:=⟨_,rfl⟩
 obtain ⟨r,hr⟩:∃ r,apatG L T p=r:=⟨_,rfl⟩
 have hr0:=hr
 unfold apatG at hr
 rw [ht] at HN hr hkt
 rw [hr0]
 obtain ⟨tk,tt,tn,ta⟩:=t
 simp only [Tok.av] at HN hr hkt
 refine Zc Try.func95 Y (by kernel_rfl) Y (Xb Y) ?_
 refine Qv ?_
 refine QaB ?_;intro b2
 refine Qq ?_
 refine Zb 6 Y Y Y (Yf (xs:=[.tmp 5]) [1] Y Y Y (HN) by3 ?_)
 refine QB ?_;intro b3
 refine Qai ?_
 refine QbE ?_
 refine Qd9 ?_
 refine QaB ?_;intro b4
 refine Qbo ?_
 refine QL ?_
 apply c_joink (rg [(1,1),(5,33),(50,1),(59,1)]) (σ:=Int × ByteArray × Int) (fun zz=>match zz with|(kk,ss,nn)=>[]) (fun zz=>match zz with|(kk,ss,nn)=>[.loc b4 [.val (.int .i64 kk),.val (.string ss),.val (.int .i64 nn),.val (.slice none 0 0),.val (.int .i64 ta)],.loc b3 (Tok.mk tk tt tn ta).av,.loc b2 zPa,.loc b (psC L p)]) (fun zz=>match zz with|(kk,ss,nn)=>(0<kk∧(Pa.mk kk ss nn [] ta,stepP p)=r∧p.at_<L.length)∨(kk=0∧(if isP L (takeP L p 7 kLP).2 kRP=true then (Pa.mk 3 kUnit 0 [] ta,stepP (takeP L p 7 kLP).2) else ((T (takeP L p 7 kLP).2).1,(takeP L (T (takeP L p 7 kLP).2).2 7 kRP).2))=r))
 ·repeat' (first|exact Xe|apply Xc rfl|apply Xd rfl)
 ·skip
  refine Qa3 ?_
  refine QaV ?_
  refine Qi ?_;intro c13 h13
  refine Qd ?_
  obtain ⟨rfl,g13⟩|⟨rfl,g13⟩:=Za h13
  ·refine Qbk ?_;intro c21 h21
   refine Qd ?_
   obtain ⟨rfl,g21⟩|⟨rfl,g21⟩:=Za h21
   ·refine Qbk ?_;intro c29 h29
    refine Qd ?_
    obtain ⟨rfl,g29⟩|⟨rfl,g29⟩:=Za h29
    ·refine QP ?_
     refine Qs ?_
     refine Zb 36 Y Y Y (op_callkb (xs:=[.tmp 35,.const (.string ⟨#[95]⟩)]) [3] Y Y Y (HI) by3 ?_);intro c36 h36
     refine Qd ?_
     obtain ⟨rfl,g36⟩|⟨rfl,g36⟩:=Za h36
     ·refine QaD ?_
      refine Qak ?_
      first
      |(rw [if_pos g13] at hr;exact ⟨(3,tt,0),.inl ⟨by decide,hr,hkt by16⟩,by6,Yu rfl⟩)
      |(rw [if_neg g13,if_pos g21] at hr;exact ⟨(2,tt,0),.inl ⟨by decide,hr,hkt by16⟩,by6,Yu rfl⟩)
      |(rw [if_neg g13,if_neg g21,if_pos g29] at hr;exact ⟨(4,kE,tn),.inl ⟨by decide,hr,hkt by16⟩,by6,Yu rfl⟩)
      |(rw [if_neg g13,if_neg g21,if_neg g29,if_pos g36] at hr;exact ⟨(1,kE,0),.inl ⟨by decide,hr,hki g36⟩,by6,Yu rfl⟩)
      |(rw [if_neg g13,if_neg g21,if_neg g29,if_neg g36] at hr;exact ⟨(0,kE,0),.inr ⟨rfl,hr⟩,by6,Yu rfl⟩)
     refine Qk ?_
     refine Qbw ?_
     refine Qc1 ?_
     refine Q0 ?_
     refine Qak ?_
     first
     |(rw [if_pos g13] at hr;exact ⟨(3,tt,0),.inl ⟨by decide,hr,hkt by16⟩,by6,Yu rfl⟩)
     |(rw [if_neg g13,if_pos g21] at hr;exact ⟨(2,tt,0),.inl ⟨by decide,hr,hkt by16⟩,by6,Yu rfl⟩)
     |(rw [if_neg g13,if_neg g21,if_pos g29] at hr;exact ⟨(4,kE,tn),.inl ⟨by decide,hr,hkt by16⟩,by6,Yu rfl⟩)
     |(rw [if_neg g13,if_neg g21,if_neg g29,if_pos g36] at hr;exact ⟨(1,kE,0),.inl ⟨by decide,hr,hki g36⟩,by6,Yu rfl⟩)
     |(rw [if_neg g13,if_neg g21,if_neg g29,if_neg g36] at hr;exact ⟨(0,kE,0),.inr ⟨rfl,hr⟩,by6,Yu rfl⟩)
    refine Qb3 ?_
    refine Qc1 ?_
    refine Qb4 ?_
    refine Qx ?_
    refine Zq Y Y (Zm (cs':=[_,_,_,_,_]) (i:=0) Y ts_2 Y Y Y Y Y (Xb Y) Y ?_)
    refine Q0 ?_
    refine Qak ?_
    first
    |(rw [if_pos g13] at hr;exact ⟨(3,tt,0),.inl ⟨by decide,hr,hkt by16⟩,by6,Yu rfl⟩)
    |(rw [if_neg g13,if_pos g21] at hr;exact ⟨(2,tt,0),.inl ⟨by decide,hr,hkt by16⟩,by6,Yu rfl⟩)
    |(rw [if_neg g13,if_neg g21,if_pos g29] at hr;exact ⟨(4,kE,tn),.inl ⟨by decide,hr,hkt by16⟩,by6,Yu rfl⟩)
    |(rw [if_neg g13,if_neg g21,if_neg g29,if_pos g36] at hr;exact ⟨(1,kE,0),.inl ⟨by decide,hr,hki g36⟩,by6,Yu rfl⟩)
    |(rw [if_neg g13,if_neg g21,if_neg g29,if_neg g36] at hr;exact ⟨(0,kE,0),.inr ⟨rfl,hr⟩,by6,Yu rfl⟩)
   refine Qb3 ?_
   refine Qc1 ?_
   refine Qb4 ?_
   refine Qx ?_
   refine QdD ?_
   refine Q0 ?_
   refine Qak ?_
   first
   |(rw [if_pos g13] at hr;exact ⟨(3,tt,0),.inl ⟨by decide,hr,hkt by16⟩,by6,Yu rfl⟩)
   |(rw [if_neg g13,if_pos g21] at hr;exact ⟨(2,tt,0),.inl ⟨by decide,hr,hkt by16⟩,by6,Yu rfl⟩)
   |(rw [if_neg g13,if_neg g21,if_pos g29] at hr;exact ⟨(4,kE,tn),.inl ⟨by decide,hr,hkt by16⟩,by6,Yu rfl⟩)
   |(rw [if_neg g13,if_neg g21,if_neg g29,if_pos g36] at hr;exact ⟨(1,kE,0),.inl ⟨by decide,hr,hki g36⟩,by6,Yu rfl⟩)
   |(rw [if_neg g13,if_neg g21,if_neg g29,if_neg g36] at hr;exact ⟨(0,kE,0),.inr ⟨rfl,hr⟩,by6,Yu rfl⟩)
  refine Qb3 ?_
  refine Qc1 ?_
  refine Qb4 ?_
  refine Qx ?_
  refine QdD ?_
  refine Q0 ?_
  refine Qak ?_
  first
  |(rw [if_pos g13] at hr;exact ⟨(3,tt,0),.inl ⟨by decide,hr,hkt by16⟩,by6,Yu rfl⟩)
  |(rw [if_neg g13,if_pos g21] at hr;exact ⟨(2,tt,0),.inl ⟨by decide,hr,hkt by16⟩,by6,Yu rfl⟩)
  |(rw [if_neg g13,if_neg g21,if_pos g29] at hr;exact ⟨(4,kE,tn),.inl ⟨by decide,hr,hkt by16⟩,by6,Yu rfl⟩)
  |(rw [if_neg g13,if_neg g21,if_neg g29,if_pos g36] at hr;exact ⟨(1,kE,0),.inl ⟨by decide,hr,hki g36⟩,by6,Yu rfl⟩)
  |(rw [if_neg g13,if_neg g21,if_neg g29,if_neg g36] at hr;exact ⟨(0,kE,0),.inr ⟨rfl,hr⟩,by6,Yu rfl⟩)
 rintro ⟨kk,ss,nn⟩ hI
 try dsimp only [List.cons_append,List.nil_append] at hI ⊢
 refine QaP ?_
 refine Qag ?_
 refine Q8 ?_;intro c40 h40
 refine Qa ?_
 obtain ⟨rfl,g40⟩|⟨rfl,g40⟩:=Za h40
 ·refine Qt ?_
  obtain ⟨_,h2⟩:=hI.resolve_left (fun q=>by omega)
  refine Qg ?_
  refine Zb 50 Y Y Y (Zh (xs:=[.tmp 49,.const (.int .i64 7),.const (.string ⟨#[40]⟩)]) (i:=3) Y Y Y (take_c b L hL p k.1 7 kLP) by3 ?_)
  refine Q2 ?_
  refine Zb 52 Y Y Y (op_mayc (xs:=[.tmp 51,.const (.string ⟨#[41]⟩)]) (i:=3) Y Y Y (may_c b L hL (takeP L p 7 kLP).2 kRP) by3 ?_ ?_)
  ·intro g52
   refine Qa ?_
   refine Qk ?_
   refine QaV ?_
   refine Zb 55 Y Y Y (Zi (ns:=[0,1,4]) (xs:=[.const (.int .i64 3),.const (.string ⟨#[85,110,105,116]⟩),.tmp 54]) Y tz_52 Y tfl_52 Y Y Y Y ?_)
   refine Qdi ?_
   refine Qo ?_
   rw [if_pos g52] at h2;subst h2;exact Zl (i:=2) rfl rfl rfl ta_52 rfl by4 (Yt _ (Yt _ (Yt _ (Yu rfl)))) ⟨rfl,rfl⟩
  intro g52
  refine Qa ?_
  refine Qt ?_
  have HT1:=HT _ k1
  have k2:=(HA _ k1).ok k1
  rw [if_neg g52] at h2
  obtain ⟨⟨⟨xk,xs,xn,xl,xp⟩,p3⟩,hx⟩:∃ r,T (takeP L p 7 kLP).2=r:=⟨_,rfl⟩
  rw [hx] at HT1 h2 k2
  simp only [Pa.cells] at HT1
  refine Qg ?_
  refine Zb 57 Y Y Y (Zh (xs:=[.tmp 56]) (i:=3) Y Y Y (HT1) by3 ?_)
  refine Qbo ?_
  refine Qq ?_
  refine Zb 59 Y Y Y (Zh (xs:=[.tmp 58,.const (.int .i64 7),.const (.string ⟨#[41]⟩)]) (i:=3) Y Y Y (take_c b L hL _ k2.1 7 kRP) by3 ?_)
  refine QG ?_
  refine Qbg ?_
  refine Qdi ?_
  refine Qo ?_
  subst h2;exact Zl (i:=2) rfl rfl rfl ta_52 rfl (Yv _) (Yt _ (Yt _ (Yt _ (Yu rfl)))) ⟨rfl,rfl⟩
 refine Qbd ?_
 obtain ⟨_,h2,h3⟩:=hI.resolve_right (fun q=>by omega)
 refine Qg ?_
 refine QA ?_
 refine Qcw ?_
 refine Qb1 ?_
 refine QcN ?_
 refine QG ?_
 refine Qbg ?_
 refine Qdi ?_
 refine Qo ?_
 subst h2;exact Zl (i:=2) rfl rfl rfl ta_52 rfl (Le.agg (Yx (Yv _) (Yx (Yv _) (Yx (Yv _) (Yx (Le.nil _) (Yw _)))))) (Yt _ (Yt _ (Yt _ (Yu rfl)))) ⟨rfl,rfl⟩
theorem pat_err (b:Nat) (L:List Tok) (p:PS) (he:p.e≠0):MCall Try.prog 91 [.ptr b 0] (.loc b (psC L p)) (.agg pa0.cells) (.loc b (psC L p)):=by
 refine QdE ?_
 refine Qv ?_
 refine QaB ?_;intro b2
 refine Q2 ?_
 refine QA ?_
 refine Qao ?_
 refine Q5 ?_;intro c9 h9
 refine Qa ?_
 obtain ⟨rfl,g9⟩|⟨rfl,g9⟩:=Za h9
 ·exact absurd he g9
 refine Q7 ?_
 refine Zb 10 Y Y Y (Zi (ns:=[]) (xs:=[]) Y tz_52 Y tfl_52 Y Y Y Y ?_)
 refine Qbo ?_
 refine Qo ?_
 exact Zl (i:=0) Y Y Y ta_52 Y by4 (Yt _ (MLe.refl _)) ⟨Y,Y⟩
theorem apat_con (b:Nat) (L:List Tok) (hL:L.length≤100000) (n:Nat) (p:PS) (k:POk L n p) (h2:(nxt L p).k=2):MCall Try.prog 95 [.ptr b 0] (.loc b (psC L p)) (.agg [.val (.int .i64 3),.val (.string (nxt L p).t),.val (.int .i64 0),.val (.slice none 0 0),.val (.int .i64 (nxt L p).a)]) (.loc b (psC L (stepP p))):=by
 have HN:=next_c b L p
 have hp:=k.1
 have hlt:p.at_<L.length:=(nxt_in by16).2
 obtain ⟨t,ht⟩:∃ t,nxt L p=t:=⟨_,rfl⟩
 rw [ht] at HN h2 ⊢
 obtain ⟨tk,tt,tn,ta⟩:=t
 simp only [Tok.av] at HN h2 ⊢
 refine Zc Try.func95 Y (by kernel_rfl) Y (Xb Y) ?_
 refine Qv ?_
 refine QaB ?_;intro b2
 refine Qq ?_
 refine Zb 6 Y Y Y (Yf (xs:=[.tmp 5]) [1] Y Y Y (HN) by3 ?_)
 refine QB ?_;intro b3
 refine Qai ?_
 refine QbE ?_
 refine Qd9 ?_
 refine QaB ?_;intro b4
 refine Qbo ?_
 refine Qb5 ?_
 refine QaV ?_
 refine Qi ?_;intro c13 h13
 refine Qd ?_
 obtain ⟨rfl,g13⟩|⟨rfl,g13⟩:=Za h13
 ·exact absurd h2 g13
 refine Qb3 ?_
 refine Qc1 ?_
 refine Qb4 ?_
 refine Qx ?_
 refine QdD ?_
 refine Q0 ?_
 refine QaU ?_
 refine QE ?_
 refine Qag ?_
 refine Q8 ?_;intro c40 h40
 refine Qa ?_
 obtain ⟨rfl,g40⟩|⟨rfl,g40⟩:=Za h40
 ·exact absurd g40 by15
 refine QaH ?_
 refine QA ?_
 refine Qcw ?_
 refine Qb1 ?_
 refine QcN ?_
 refine QG ?_
 refine Qbg ?_
 refine Qdi ?_
 refine Qo ?_
 exact Zl (i:=2) Y Y Y ta_52 Y (Yv _) (Yt _ (Yt _ (Yt _ (Yu Y)))) ⟨Y,Y⟩
theorem pat_non (b:Nat) (L:List Tok) (hL:L.length≤100000) (n:Nat) (T:PS→Pa × PS) (HT:PaC b L n T) (HA:∀ q,POk L n q→Adv L q (T q).2) (p:PS) (k:POk L (n+1) p) (he:p.e=0) (hk:¬ (nxt L (deeperP L p)).k=2) :
    MCall Try.prog 91 [.ptr b 0] (.loc b (psC L p)) (.agg (apatG L T (deeperP L p)).1.cells) (.loc b (psC L (decP (apatG L T (deeperP L p)).2))):=by
 have kq:=deeper_ok k he
 have HN:=next_c b L (deeperP L p)
 have HAT:=apat_c b L hL n T HT HA (deeperP L p) kq
 have kt:=(apat_adv HA kq).ok kq
 obtain ⟨t,ht⟩:∃ t,nxt L (deeperP L p)=t:=⟨_,rfl⟩
 rw [ht] at HN hk
 obtain ⟨tk,tt,tn,ta⟩:=t
 obtain ⟨⟨⟨xk,xs,xn,xl,xp⟩,q1⟩,hx⟩:∃ r,apatG L T (deeperP L p)=r:=⟨_,rfl⟩
 rw [hx] at HAT kt ⊢
 simp only [Tok.av,Pa.cells] at HN HAT hk ⊢
 simp only [] at kt
 have hb1:=kt.2.1
 have hb2:=kt.2.2.1
 refine QdE ?_
 refine Qv ?_
 refine QaB ?_;intro b2
 refine Q2 ?_
 refine QA ?_
 refine Qao ?_
 refine Q5 ?_;intro c9 h9
 refine Qa ?_
 obtain ⟨rfl,g9⟩|⟨rfl,g9⟩:=Za h9
 ·refine Q3 ?_
  refine Zb 12 Y Y Y (Zh (xs:=[.tmp 11]) (i:=1) Y Y Y (deeper_c b L p k.2.1 (by have:=k.2.2.1;omega)) by3 ?_)
  refine Qq ?_
  refine Zb 14 Y Y Y (Yf (xs:=[.tmp 13]) [1] Y Y Y (HN) by3 ?_)
  refine QcM ?_
  refine Qi ?_;intro c16 h16
  refine Qau ?_
  obtain rfl:c16=false:=by
   cases c16 with
   | false=>rfl
   | true=>exact absurd (h16.1 rfl) hk
  refine Qg ?_
  refine Zb 18 Y Y Y (Zh (xs:=[.tmp 17]) (i:=1) Y Y Y (HAT) by3 ?_)
  refine QaB ?_;intro b4
  refine Qbo ?_
  refine Qb5 ?_
  apply Zw (rg [(1,1),(5,26)]) (σ:=Unit) (fun zz=>match zz with|z=>[]) (fun zz=>match zz with|z=>True) (fun zz=>match zz with|z=>0) (())
  ·repeat' (first|exact Xe|apply Xc rfl|apply Xd rfl)
  ·exact trivial
  ·exact by6
  rintro z hI
  try dsimp only [List.cons_append,List.nil_append] at hI ⊢
  refine Qal ?_
  refine QZ ?_
  refine Qcz ?_
  refine Qa ?_
  refine Qar ?_
  refine Qs ?_
  refine QA ?_
  refine Qa6 ?_
  refine QT ?_
  refine QA ?_
  refine QcL ?_
  refine QG ?_
  refine Qbg ?_
  refine Qdj ?_
  refine Qo ?_
  exact Zl (i:=1) Y Y Y ta_52 Y (Yv _) (Yt _ (Yt _ (Yu Y))) ⟨Y,Y⟩
 exact absurd he g9
theorem pat_con (b:Nat) (L:List Tok) (hL:L.length≤100000) (n:Nat) (T:PS→Pa × PS) (HT:PaC b L n T) (HA:∀ q,POk L n q→Adv L q (T q).2) (p:PS) (k:POk L (n+1) p) (he:p.e=0) (hk:(nxt L (deeperP L p)).k=2) (r:List Pa × PS) (hr:patsL L T (L.length+1) (stepP (deeperP L p)) []=r) :
    MCall Try.prog 91 [.ptr b 0] (.loc b (psC L p)) (.agg (Pa.mk 3 (nxt L (deeperP L p)).t 0 r.1 (nxt L (deeperP L p)).a).cells) (.loc b (psC L (decP r.2))):=by
 have kq:=deeper_ok k he
 have HN:=next_c b L (deeperP L p)
 have HAT:=apat_con b L hL n (deeperP L p) kq hk
 have hlt:(deeperP L p).at_<L.length:=(nxt_in by16).2
 have ks:=(Yq kq hlt).ok kq
 obtain ⟨t,ht⟩:∃ t,nxt L (deeperP L p)=t:=⟨_,rfl⟩
 rw [ht] at HN hk HAT ⊢
 obtain ⟨tk,tt,tn,ta⟩:=t
 simp only [Tok.av] at HN HAT hk ⊢
 refine QdE ?_
 refine Qv ?_
 refine QaB ?_;intro b2
 refine Q2 ?_
 refine QA ?_
 refine Qao ?_
 refine Q5 ?_;intro c9 h9
 refine Qa ?_
 obtain ⟨rfl,g9⟩|⟨rfl,g9⟩:=Za h9
 ·refine Q3 ?_
  refine Zb 12 Y Y Y (Zh (xs:=[.tmp 11]) (i:=1) Y Y Y (deeper_c b L p k.2.1 (by have:=k.2.2.1;omega)) by3 ?_)
  refine Qq ?_
  refine Zb 14 Y Y Y (Yf (xs:=[.tmp 13]) [1] Y Y Y (HN) by3 ?_)
  refine QcM ?_
  refine Qi ?_;intro c16 h16
  refine Qau ?_
  obtain rfl:c16=true:=h16.2 hk
  refine Qg ?_
  refine Zb 18 Y Y Y (Zh (xs:=[.tmp 17]) (i:=1) Y Y Y (HAT) by3 ?_)
  refine QaB ?_;intro b4
  refine Qbo ?_
  refine Qb5 ?_
  refine c_ownNew 52 5 ?_
  apply Yn (rg [(1,1),(5,26)]) (σ:=PS × Nat × List Pa × Value) (fun zz=>match zz with|(q,f,acc,u)=>[]) (fun zz=>match zz with|(q,f,acc,u)=>[.loc b4 [.val (.int .i64 3),.val (.string tt),.val (.int .i64 0),.own u 5 (Pa.cellss acc),.val (.int .i64 ta)],.loc b2 zPa,.loc b (psC L q),.own 52 5 u]) (fun zz=>match zz with|(q,f,acc,u)=>POk L n q∧L.length - q.at_<f∧acc.length≤q.at_∧patsL L T f q acc=r) (fun zz=>match zz with|(q,f,acc,u)=>f) ((stepP (deeperP L p),L.length+1,[],.slice none 0 0))
  ·repeat' (first|exact Xe|apply Xc rfl|apply Xd rfl)
  ·exact ⟨ks,by omega,Nat.zero_le _,hr⟩
  ·exact by6
  ·exact (MLe.loc _ (Yx (Yv _) (Yx (Yv _) (Yx (Yv _) (Yx (Le.nilOwn 5) (Yw _))))) (Ys _ (Yu Y)))
  rintro ⟨q,f,acc,u⟩ hI
  try dsimp only [List.cons_append,List.nil_append] at hI ⊢
  obtain ⟨h1,h2,h3,hu⟩:=hI
  have hq1:=h1.1
  have hb1:=h1.2.1
  have hb2:=h1.2.2.1
  have hle:(Pa.cellss acc).length≤200000:=by rw [Pa.cellss_len];omega
  refine Qal ?_
  refine Qc ?_
  refine Zk 22 Y Y Y Y Y (op_callkb (xs:=[.tmp 21,.const (.int .i64 1)]) [2] Y Y Y (starts_c b L q 1) by3 ?_);intro c22 h22
  refine Qcz ?_
  refine Qa ?_
  obtain ⟨rfl,g22⟩|⟨rfl,g22⟩:=Za h22
  ·refine Qar ?_
   refine Qs ?_
   refine QA ?_
   refine Qa6 ?_
   refine QT ?_
   refine QA ?_
   refine QcL ?_
   refine QG ?_
   refine Qbg ?_
   refine Qdj ?_
   refine Qo ?_
   rw [patsL_end g22] at hu;subst hu;exact Zl (i:=1) rfl rfl rfl ta_52 rfl (Le.agg (Yx (Yv _) (Yx (Yv _) (Yx (Yv _) (Yx (Le.own _ _ _) (Yw _)))))) (Yt _ (Yt _ (Ys _ (Yr _)))) ⟨rfl,rfl⟩
  refine QaG ?_
  obtain ⟨f,rfl⟩:∃ f',f=f'+1:=⟨f - 1,by omega⟩
  rw [patsL_go g22] at hu
  have b1:=apat_lt HA h1 g22
  have b2:=apat_adv HA h1
  have l2:=b2.ok h1
  have HA2:=apat_c b L hL n T HT HA q h1
  obtain ⟨⟨⟨yk,ys,yn,yl,yp⟩,q2⟩,e2⟩:∃ r,apatG L T q=r:=⟨_,rfl⟩
  rw [e2] at HA2 hu l2 b1
  simp only [Pa.cells] at HA2
  simp only [] at b1 l2
  have l3:=l2.1
  refine Qcx ?_
  refine Qb2 ?_
  refine Zz 2 (i:=3) Y Y Y Y Y (Zh (xs:=[.tmp 26]) (i:=0) Y Y Y (HA2) by3 ⟨_,Y,?_⟩)
  refine Zf 28 (none) (i:=4) Y Y Y Y Y (Ze (xs:=[.tmp 27]) el_50 Y Y Y Y Y Y (Xb Y) ⟨Y,Y⟩) ?_
  refine Zz 3 (i:=5) Y Y Y Y Y (Zu (i:=0) el_50 Y Y Y Y (.seq _ _) by8 (fun u29=>⟨_,Y,?_⟩))
  refine QR ?_
  refine Qea ?_
  show AGo _ _ _ _ _ _ _
  refine Qak ?_
  refine ⟨(q2,f,acc++[Pa.mk yk ys yn yl yp],u29),⟨l2,(by show L.length - q2.at_<f;omega),(by show (acc++[Pa.mk yk ys yn yl yp]).length≤q2.at_;rw [List.length_append];simp;omega),hu⟩,Nat.lt_succ_self f,by6,(MLe.loc _ (Yx (Yv _) (Yx (Yv _) (Yx (Yv _) (Yx (Xa (by rw [Pa.cellss_app'];rfl)) (Yw _))))) (Ys _ (Yu Y)))⟩
 exact absurd he g9
theorem pat_c (b:Nat) (L:List Tok) (hL:L.length≤100000):∀ n,PaC b L n (patF L n)
 | 0,p,k=>pat_err b L p (fun e=>by have:=k.2.2.2 e;omega)
 | n+1,p,k=>by
  by_cases he:p.e=0
  ·rw [patF,if_neg (by rw [he];simp)]
   by_cases hk:(nxt L (deeperP L p)).k=2
   ·rw [if_pos hk];exact pat_con b L hL n (patF L n) (pat_c b L hL n) (patF_adv n) p k he hk _ rfl
   rw [if_neg hk];exact pat_non b L hL n (patF L n) (pat_c b L hL n) (patF_adv n) p k he hk
  rw [patF,if_pos he];exact pat_err b L p he
theorem patP_c (b:Nat) (L:List Tok) (hL:L.length≤100000) (n:Nat) (p:PS) (k:POk L n p):MCall Try.prog 91 [.ptr b 0] (.loc b (psC L p)) (.agg (patP L p).1.cells) (.loc b (psC L (patP L p).2)):=pat_c b L hL 302 p (k.up by15)
end Go.Proofs.Ytefbicnoddggnaa
namespace Go.Proofs.Ytefbicnoddggnaa
open Go.RowKit
def rowT (i:Nat):List (List UInt8):=rowsT.getD i []
structure TblAt (w:World) (B:Nat):Prop where
 row:∀ i,i<7→w.cell? ⟨B+7,i,none⟩=some (.slice (some ⟨B+i,0,none⟩) (rowT i).length (rowT i).length)
 str:∀ i,i<7→∀ k,k<(rowT i).length→w.cell? ⟨B+i,k,none⟩=some (.string ⟨((rowT i).getD k []).toArray⟩)
theorem seven {i:Nat} (h:i<7):i=0∨i=1∨i=2∨i=3∨i=4∨i=5∨i=6:=by omega
theorem rowlen (i:Nat) (h:i<7):(rowT i).length≤6:=by
 rcases seven h with rfl|rfl|rfl|rfl|rfl|rfl|rfl <;> decide
def missTo (op:List UInt8) (i:Nat):Prop:=∀ j,j<7→j<i→(rowT j).contains op=false
theorem rowT_get {j:Nat} (h:j<rowsT.length):rowsT[j]=rowT j:=by simp [rowT,List.getD,h]
theorem lvl_at {op:List UInt8} {i:Nat} (hi:i<7) (hm:missTo op i) (hc:(rowT i).contains op=true):lvl op=i+1:=by
 unfold lvl
 congr 1
 have hi':i<rowsT.length:=hi
 rw [List.findIdx_eq hi']
 refine ⟨by rw [rowT_get hi'];exact hc,fun j hj=>?_⟩
 have hj':j<rowsT.length:=by omega
 rw [rowT_get hj']
 exact hm j hj' hj
theorem lvl_8 {op:List UInt8} (hm:missTo op 7):lvl op=8:=by
 unfold lvl
 have:rowsT.findIdx (fun r=>r.contains op)=rowsT.length:=by
  rw [List.findIdx_eq_length]
  intro r hr
  obtain ⟨j,hj,rfl⟩:=List.getElem_of_mem hr
  rw [rowT_get hj]
  exact hm j hj hj
 rw [this];rfl
theorem miss_row {op:List UInt8} {i:Nat} (h:∀ k,k<(rowT i).length→(rowT i).getD k []≠op):(rowT i).contains op=false:=by
 rw [List.contains_eq_mem,decide_eq_false_iff_not]
 intro hm
 obtain ⟨k,hk,e⟩:=List.getElem_of_mem hm
 exact h k hk (by simp [List.getD,hk,e])
theorem hit_row {op:List UInt8} {i k:Nat} (hk:k<(rowT i).length) (h:(rowT i).getD k []=op):(rowT i).contains op=true:=by
 rw [List.contains_eq_mem,decide_eq_true_eq]
 have:(rowT i)[k]=op:=by simpa [List.getD,hk] using h
 rw [← this];exact List.getElem_mem hk
theorem rLevel_c (s:ByteArray) (w:World):Calls Try.prog 76 #[.string s] w fun e w'=>e=.returned (.int .i64 (lvl s.toList:Nat))∧Below w.heap.size w w':=by
 go_enter Try.func76,Try.ntmps76
 go_wp2
 go_loopw [4,5] (fun vi _ wr=>∃ i:Nat,i≤7∧vi=.int .i64 i∧missTo s.toList i∧TblAt wr w.heap.size∧Below w.heap.size w wr) (fun vi _ _=>7 - (intOf vi).toNat)
 case atStart =>
  refine ⟨0,by omega,Y,fun j h hj=>by omega,⟨?_,?_⟩,?_⟩
  ·intro i h
   rw [World.cell?_alloc_at _ _ _ _ (by simp only [World.size_alloc])]
   rcases seven h with rfl|rfl|rfl|rfl|rfl|rfl|rfl <;> rfl
  ·intro i h k hk
   rcases seven h with rfl|rfl|rfl|rfl|rfl|rfl|rfl
   all_goals
    have hk6:k=0∨k=1∨k=2∨k=3∨k=4∨k=5:=by have:=rowlen _ h;omega
    rcases hk6 with rfl|rfl|rfl|rfl|rfl|rfl
    all_goals first|(exact absurd hk by15)|skip
    all_goals
     repeat (rw [World.cell?_alloc_past _ _ _ (by simp only [World.size_alloc];omega)])
     rw [World.cell?_alloc_at _ _ _ _ (by first|rfl|(simp only [World.size_alloc];done)|(simp only [World.size_alloc];omega))]
     rfl
  exact (((((((((Below.refl _ _).alloc (Nat.le_refl _) _).alloc by17 _).alloc by13 _).alloc by13 _).alloc by13 _).alloc by13 _).alloc by13 _).alloc by13 _)
 case round =>
  obtain ⟨i,hi,rfl,hm,hT,hbel⟩:=hrel
  by_cases hi7:i<7
  ·have hr:=hT.row i hi7
   have hl:=rowlen i hi7
   obtain ⟨n,hn⟩:∃ n,n=(rowT i).length:=⟨_,rfl⟩
   rw [← hn] at hr hl
   have HN:=Lib.hid hn
   have HM:=Lib.hid hm
   clear hn hm
   have d1:decide ((i:Int)<7)=true:=by simp;omega
   go_wp2
   go_loop [5] (fun vk=>∃ k:Nat,k≤n∧vk=.int .i64 k∧∀ j,j<k→(rowT i).getD j []≠s.toList) (fun vk=>n - (intOf vk).toNat)
   case atStart=>exact ⟨0,by omega,rfl,fun j hj=>by omega⟩
   case round =>
    obtain ⟨k,hk,rfl,hmk⟩:=hrel
    have HMK:=Lib.hid hmk
    clear hmk
    by_cases hkn:k<n
    ·have cs:=hT.str i hi7 k (by rw [← HN.out];exact hkn)
     obtain ⟨sk,hsk⟩:∃ sk:ByteArray,sk=⟨((rowT i).getD k []).toArray⟩:=⟨_,rfl⟩
     have es:sk.toList=(rowT i).getD k []:=by rw [ByteArray.toList_eq,hsk]
     rw [← hsk] at cs
     clear hsk
     have HES:=Lib.hid es
     clear es
     by_cases heq:(sk.toList == s.toList)=true
     ·go_wp2
      go_ret
      have h1:(rowT i).getD k []=s.toList:=by rw [← HES.out];simpa using heq
      exact ⟨by rw [lvl_at hi7 HM.out (hit_row (by rw [← HN.out];exact hkn) h1)];rfl,hbel⟩
     have heq':(sk.toList == s.toList)=false:=by simpa using heq
     clear heq
     go_wp2
     go_round
     case rel=>exact ⟨k+1,by omega,by go_num,fun j hj=>by
      by_cases e:j=k
      ·subst e;rw [← HES.out];exact beq_eq_false_iff_ne.1 heq'
      exact HMK.out j by16⟩
     case measure=>simp [intOf];omega
    go_wp2
    go_roundw
    case rel=>exact ⟨i+1,by omega,by go_num,fun j h hj=>by
     by_cases e:j=i
     ·subst e;exact miss_row (fun k' hk'=>HMK.out k' (by have:=HN.out;omega))
     exact HM.out j h by16,hT,hbel⟩
    case measure=>simp [intOf];omega
  have he:i=7:=by omega
  subst he
  go_wp2
  go_ret
  exact ⟨by rw [lvl_8 hm];rfl,hbel⟩
theorem Level_p (s:ByteArray):PCall Try.prog 76 [.val (.string s)] (.val (.int .i64 (lvl s.toList:Nat))) :=
 PCall.of_calls (vs:=[.string s]) (enters_of Try.func76 (by kernel_rfl) rfl) (fun w=>rLevel_c s w)
theorem Level_at (ops:List Tok) (i:Nat):PCall Try.prog 76 [.val (.string ((ops[i]?).getD (tok0 0)).t)] (.val (.int .i64 (lvT ops i:Nat))):=Level_p _
theorem strs_at {ops:List Tok} {i:Nat} (h:i<ops.length):(strs (ops.map Tok.t))[i]?=some [.val (.string ((ops[i]?).getD (tok0 0)).t)]:=by
 simp [strs,List.getElem?_eq_getElem h]
theorem sideN_8 (l:Nat):((sideN l:Nat):Int)=if (l:Int)=4 then 0 else if (l:Int)<6 then 2 else 1:=by
 unfold sideN
 repeat' split
 all_goals first|rfl|omega
theorem back_eq {lv:Nat→Nat} {j:Nat} (h:¬ (0<j∧4<lv (j - 1))):backL lv j=true↔(0<j∧lv (j - 1)=4):=by
 cases j with
 | zero=>simp [backL]
 | succ j =>
  simp only [Nat.add_sub_cancel] at h ⊢
  rw [backL,if_neg (fun q=>h ⟨Nat.succ_pos j,q⟩)]
  simp
theorem Side_p (l:Nat):PCall Try.prog 77 [.val (.int .i64 (l:Nat))] (.val (.int .i64 (sideN l:Nat))):=by
 rw [sideN_8]
 refine Zc Try.func77 Y (by kernel_rfl) Y (Xb Y) ?_
 refine Qat ?_
 refine QU ?_
 refine Qi ?_;intro c4 h4
 refine Qa ?_
 obtain ⟨rfl,g4⟩|⟨rfl,g4⟩:=Za h4
 ·refine Qav ?_
  refine Qm ?_;intro c6 h6
  refine Qa ?_
  obtain ⟨rfl,g6⟩|⟨rfl,g6⟩:=Za h6
  ·refine QF ?_
   refine QC ?_
   exact c_ret (Zg Y Y (Yv _) by5 ⟨by rw [if_neg g4,if_neg g6],Y⟩)
  refine QD ?_
  exact Zg Y Y (Yv _) by5 ⟨by rw [if_neg g4,if_pos g6],Y⟩
 refine QD ?_
 exact Zg Y Y (Yv _) by5 ⟨by rw [if_pos g4],Y⟩
theorem Clash_p (ops:List Tok) (h:ops.length≤200000):PCall Try.prog 58 [.seq 1 (strs (ops.map Tok.t))] (.val (.int .i64 (clashP ops))):=by
 have hl:(strs (ops.map Tok.t)).length=ops.length:=by simp [strs]
 have hC:clashP ops=clashL (lvT ops) (ops.length - 0) 0:=rfl
 generalize clashP ops=r at *
 refine Zc Try.func58 Y (by kernel_rfl) Y (Xb Y) ?_
 refine QaZ ?_
 refine QM ?_
 apply Zw (rg [(1,41)]) (σ:=Nat) (fun zz=>match zz with|k=>[(3,.val (.int .i64 k))]) (fun zz=>match zz with|k=>k≤ops.length∧r=clashL (lvT ops) (ops.length - k) k) (fun zz=>match zz with|k=>ops.length - k) (0)
 ·repeat' (first|exact Xe|apply Xc rfl|apply Xd rfl)
 ·exact ⟨Nat.zero_le _,hC⟩
 ·exact by6
 rintro k hI
 try dsimp only [List.cons_append,List.nil_append] at hI ⊢
 obtain ⟨h1,hu⟩:=hI
 refine Qal ?_
 refine Qcs ?_;intro n7
 refine Qm ?_;intro c8 h8
 refine Qa ?_
 obtain ⟨rfl,g8⟩|⟨rfl,g8⟩:=Za h8
 ·refine Qbh ?_
  rw [show ops.length - k=0 by omega,clashL] at hu;exact Zg rfl rfl (Yv _) by5 ⟨by rw [hu],rfl⟩
 refine Qaf ?_
 refine QK ?_
 obtain ⟨d,hd⟩:∃ d,ops.length - k=d+1:=⟨ops.length - k - 1,by omega⟩
 rw [hd,clashL] at hu
 have hd2:d=ops.length - (k+1):=by omega
 rw [hd2] at hu
 refine QJ ?_
 refine Zb 13 Y Y Y (Zo Y te_22 Y (.seq _ _) Y Y (strs_at (ops:=ops) (i:=k) by16) ?_)
 refine Qck ?_
 refine Zb 15 Y Y Y (Zd (xs:=[.tmp 14]) Y Y (Level_at ops k) by3 ?_)
 refine Q5 ?_;intro c16 h16
 refine Qa ?_
 obtain ⟨rfl,g16⟩|⟨rfl,g16⟩:=Za h16
 ·refine Q3 ?_
  refine QT ?_
  refine Qd ?_
  refine Qa7 ?_
  apply Zw (rg [(1,1),(4,1),(19,12)]) (σ:=Nat) (fun zz=>match zz with|j=>[(4,.val (.int .i64 ((j:Int) - 1)))]) (fun zz=>match zz with|j=>j≤k∧backL (lvT ops) k=backL (lvT ops) j) (fun zz=>match zz with|j=>j) (k)
  ·repeat' (first|exact Xe|apply Xc rfl|apply Xd rfl)
  ·exact ⟨Nat.le_refl _,Y⟩
  ·exact by6
  rintro j hI
  try dsimp only [List.cons_append,List.nil_append] at hI ⊢
  obtain ⟨h2,hb⟩:=hI
  refine QK ?_
  refine Zt 28 (0<j∧4<lvT ops (j - 1)) ?_ _ _ Y ?_
  ·skip
   refine QbT ?_;intro c20 h20
   refine Qb ?_
   obtain ⟨rfl,g20⟩|⟨rfl,g20⟩:=Za h20
   ·skip
    refine Qh ?_
    refine Qae ?_
    refine Yz Y ?_ by7 by5
    first|(simp_all;done)|(simp_all;omega)|grind
   skip
   refine QbP ?_
   refine Qeb ?_
   refine Qdr ?_
   refine Zk 26 Y Y Y Y Y (Zd (xs:=[.tmp 25]) Y Y (Level_at ops (j - 1)) by3 ?_)
   refine Qcc ?_;intro c27 h27
   refine Qf ?_
   refine Yz Y ?_ by7 by5
   first|(simp_all;done)|(simp_all;omega)|grind
  intro c28 h28
  refine Qe ?_
  obtain ⟨rfl,g28⟩|⟨rfl,g28⟩:=Za h28
  ·refine QN ?_
   refine Zt 40 (0<j∧lvT ops (j - 1)=4) ?_ _ _ Y ?_
   ·skip
    refine QbT ?_;intro c32 h32
    refine Qb ?_
    obtain ⟨rfl,g32⟩|⟨rfl,g32⟩:=Za h32
    ·skip
     refine Qh ?_
     refine Qae ?_
     refine Yz Y ?_ by7 by5
     first|(simp_all;done)|(simp_all;omega)|grind
    skip
    refine QbP ?_
    refine Qeb ?_
    refine Qdr ?_
    refine Zk 38 Y Y Y Y Y (Zd (xs:=[.tmp 37]) Y Y (Level_at ops (j - 1)) by3 ?_)
    refine Qah ?_;intro c39 h39
    refine Qf ?_
    refine Yz Y ?_ by7 by5
    first|(simp_all;done)|(simp_all;omega)|grind
   intro c40 h40
   refine Qe ?_
   obtain ⟨rfl,g40⟩|⟨rfl,g40⟩:=Za h40
   ·refine Qaz ?_
    have hu2:r=clashL (lvT ops) (ops.length - (k+1)) (k+1):=by
     first
      |(rw [if_neg (fun q=>g40 ((back_eq g28).1 (by rw [← hb];exact q.2)))] at hu;exact hu)
      |(rw [if_neg (fun q=>g16 by16)] at hu;exact hu)
    exact ⟨k+1,⟨by omega,hu2⟩,by show ops.length - (k+1)<ops.length - k;omega,Yy Y (Le.inteq by16) by6,by5⟩
   refine QaH ?_
   refine Qu ?_
   rw [if_pos ⟨by omega,by rw [hb];exact (back_eq g28).2 g40⟩] at hu;exact Zg rfl rfl (Yv _) by5 ⟨by rw [hu],rfl⟩
  refine QaG ?_
  obtain ⟨j,rfl⟩:∃ j',j=j'+1:=⟨j - 1,by omega⟩
  simp only [Nat.add_sub_cancel] at g28
  rw [backL,if_pos g28.2] at hb
  refine Qg ?_
  refine QT ?_
  refine Qbb ?_
  exact ⟨j,⟨by omega,hb⟩,Nat.lt_succ_self j,Yy Y (Le.inteq by16) by6,by5⟩
 refine Qk ?_
 refine c_exit (x_code (x_here ?_))
 refine Qe ?_
 refine Qbu ?_
 refine Qaj ?_
 have hu2:r=clashL (lvT ops) (ops.length - (k+1)) (k+1):=by
  first
   |(rw [if_neg (fun q=>g40 ((back_eq g28).1 (by rw [← hb];exact q.2)))] at hu;exact hu)
   |(rw [if_neg (fun q=>g16 by16)] at hu;exact hu)
 exact ⟨k+1,⟨by omega,hu2⟩,by show ops.length - (k+1)<ops.length - k;omega,Yy Y (Le.inteq by16) by6,by5⟩
abbrev zEx:List AV:=[.val (.int .i64 0),.val (.string kE),.val (.int .i64 0),.val (.int .i64 0),.val (.string kE),.val (.int .i64 0),.val (.slice none 0 0),.val (.slice none 0 0),.val (.slice none 0 0),.val (.slice none 0 0),.val (.int .i64 0)]
theorem rootB_in (ops:List Tok):∀ (f a i lo:Nat),lo≤a→a<i→lo≤rootB ops f a i∧rootB ops f a i<i+f
 | 0,a,i,lo,h1,h2=>⟨h1,h2⟩
 | f+1,a,i,lo,h1,h2=>by
  unfold rootB
  split
  ·have:=rootB_in ops f i (i+1) lo by16 (Nat.lt_succ_self i);omega
  have:=rootB_in ops f a (i+1) lo h1 by16;omega
theorem toks_at {ops:List Tok} {i:Nat} (h:i<ops.length):(ops.map Tok.av)[i]?=some ((ops[i]?).getD (tok0 0)).av:=by
 simp [List.getElem?_eq_getElem h]
theorem exs_at {l:List Ex} {i:Nat} (h:i<l.length):(Ex.cellss l)[i]?=some ((l[i]?).getD ex0).cells:=by
 rw [Ex.cellss_map];simp [List.getElem?_eq_getElem h]
theorem Build_one (l:List Ex) (ops:List Tok) (hl:l.length=ops.length+1) (a:Nat) (ha:a≤ops.length):PCall Try.prog 59 [.seq 11 (Ex.cellss l),.seq 4 (ops.map Tok.av),.val (.int .i64 a),.val (.int .i64 a)] (.agg ((l[a]?).getD ex0).cells):=by
 have hx:=exs_at (l:=l) (i:=a) by16
 obtain ⟨⟨xk,xs,xn,⟨xtk,xts,xtn,xtl⟩,xks,xal,xbs,xp⟩,e⟩:∃ x,(l[a]?).getD ex0=x:=⟨_,rfl⟩
 rw [e] at hx ⊢
 refine Zc Try.func59 Y (by kernel_rfl) Y (Xb Y) ?_
 refine Qa0 ?_;intro b8
 refine Q2 ?_
 refine QbU ?_;intro c19 h19
 refine Qa ?_
 obtain ⟨rfl,g19⟩|⟨rfl,g19⟩:=Za h19
 ·exact absurd Y g19
 refine Qk ?_
 refine QO ?_
 refine Zb 22 Y Y Y (Zo Y te_44 Y (.seq _ _) Y Y (hx) ?_)
 refine Qa5 ?_
 refine Qb6 ?_
 exact Zl (i:=0) Y Y Y Ya Y (Yv _) by5 ⟨Y,Y⟩
theorem Build_two (l:List Ex) (ops:List Tok) (hL:ops.length≤200000) (a b d:Nat) (hab:a<b) (hb:b≤ops.length) (hd:b - a≤d+1)
    (IH:∀ a b,a≤b→b≤ops.length→b - a≤d→PCall Try.prog 59 [.seq 11 (Ex.cellss l),.seq 4 (ops.map Tok.av),.val (.int .i64 a),.val (.int .i64 b)] (.agg (buildF l ops d a b).cells)) :
    PCall Try.prog 59 [.seq 11 (Ex.cellss l),.seq 4 (ops.map Tok.av),.val (.int .i64 a),.val (.int .i64 b)] (.agg (buildF l ops (d+1) a b).cells):=by
 rw [buildF,if_neg by16]
 obtain ⟨r,hr⟩:∃ r,rootB ops (b - (a+1)) a (a+1)=r:=⟨_,rfl⟩
 have hin:=rootB_in ops (b - (a+1)) a (a+1) a (Nat.le_refl _) (Nat.lt_succ_self a)
 rw [hr] at hin ⊢
 have H1:=IH a r hin.1 by16 by16
 have H2:=IH (r+1) b by16 hb by16
 have hop:=toks_at (ops:=ops) (i:=r) by16
 obtain ⟨⟨xk,xs,xn,⟨xtk,xts,xtn,xtl⟩,xks,xal,xbs,xp⟩,e1⟩:∃ x,buildF l ops d a r=x:=⟨_,rfl⟩
 obtain ⟨⟨yk,ys,yn,⟨ytk,yts,ytn,ytl⟩,yks,yal,ybs,yp⟩,e2⟩:∃ x,buildF l ops d (r+1) b=x:=⟨_,rfl⟩
 obtain ⟨⟨ok,ot,on,oa⟩,e3⟩:∃ x,(ops[r]?).getD (tok0 0)=x:=⟨_,rfl⟩
 rw [e1] at H1 ⊢
 rw [e2] at H2 ⊢
 rw [e3] at hop ⊢
 simp only [Ex.cells,Ty.cells,List.cons_append,List.nil_append,Tok.av] at H1 H2 hop
 clear IH
 obtain ⟨z,hz⟩:∃ z,binE (Tok.mk ok ot on oa) (Ex.mk xk xs xn (Ty.mk xtk xts xtn xtl) xks xal xbs xp) (Ex.mk yk ys yn (Ty.mk ytk yts ytn ytl) yks yal ybs yp)=z:=⟨_,rfl⟩
 rw [hz]
 unfold binE at hz
 simp only [] at hz
 refine Zc Try.func59 Y (by kernel_rfl) Y (Xb Y) ?_
 refine Qa0 ?_;intro b8
 refine Q2 ?_
 refine QbU ?_;intro c19 h19
 refine Qa ?_
 obtain ⟨rfl,g19⟩|⟨rfl,g19⟩:=Za h19
 ·refine Q3 ?_
  refine Qbz ?_
  refine Qax ?_
  refine Qbj ?_
  apply Zw (rg [(4,4),(9,4),(17,41)]) (σ:=Nat × Nat) (fun zz=>match zz with|(t,i)=>[(9,.val (.int .i64 t)),(10,.val (.int .i64 i))]) (fun zz=>match zz with|(t,i)=>a≤t∧t<i∧i≤b∧rootB ops (b - i) t i=r) (fun zz=>match zz with|(t,i)=>b - i) ((a,a+1))
  ·repeat' (first|exact Xe|apply Xc rfl|apply Xd rfl)
  ·exact ⟨Nat.le_refl _,Nat.lt_succ_self a,hab,hr⟩
  ·exact by6
  rintro ⟨t,i⟩ hI
  try dsimp only [List.cons_append,List.nil_append] at hI ⊢
  obtain ⟨h1,h2,h3,hu⟩:=hI
  refine Qal ?_
  refine Qm ?_;intro c29 h29
  refine Qa ?_
  obtain ⟨rfl,g29⟩|⟨rfl,g29⟩:=Za h29
  ·refine QN ?_
   rw [show b - i=0 by omega,rootB] at hu
   subst hu
   refine QJ ?_
   refine QaF ?_
   refine Zb 62 Y Y Y (Zd (xs:=[.tmp 58,.tmp 59,.tmp 60,.tmp 61]) Y Y (H1) by3 ?_)
   refine QH ?_;intro b13
   refine QS ?_
   refine Qq ?_
   refine QaF ?_
   refine Qax ?_
   refine Qb ?_
   refine Zb 68 Y Y Y (Zd (xs:=[.tmp 63,.tmp 64,.tmp 66,.tmp 67]) Y Y (H2) by3 ?_)
   refine QH ?_;intro b14
   refine QS ?_
   refine Qq ?_
   refine Qb ?_
   refine Zb 71 Y Y Y (Zo Y te_86 Y (.seq _ _) Y Y (hop) (Zb 72 Y Y Y (Yb (cs':=[_,_,_,_]) Y Zv Y Y Y ?_)))
   refine QB ?_;intro b15
   refine Qai ?_
   refine QbC ?_
   refine Qay ?_;intro c75 h75
   refine Qa ?_
   obtain ⟨rfl,g75⟩|⟨rfl,g75⟩:=Za h75
   ·refine Qt ?_
    refine Qag ?_
    refine Qay ?_;intro c84 h84
    refine Qa ?_
    obtain ⟨rfl,g84⟩|⟨rfl,g84⟩:=Za h84
    ·refine QF ?_
     refine Qag ?_
     refine Qa8 ?_
     refine Zb 95 Y Y Y (Zi (ns:=[0,1,7]) (xs:=[.const (.int .i64 3),.tmp 92,.tmp 94]) Y tz_47 Y tfl_47 Y Y Y Y ?_)
     refine QH ?_;intro b16
     refine QS ?_
     refine QG ?_
     refine Qac ?_
     refine Zb 97 Y Y Y (Zx (cs':=[_,_,_,_,_,_,_,_,_,_,_]) (i:=3) Y Ya Y Y Y Y (Zb 98 Y Y Y (Ze (xs:=[.tmp 96,.tmp 97]) Yp Y Y Y Y Y Y (Xb Y) ?_)))
     refine Qx ?_
     refine Qao ?_
     refine Zb 101 Y Y Y (Zi (ns:=[0,4,7]) (xs:=[.const (.int .i64 5),.tmp 98,.tmp 100]) Y tz_47 Y tfl_47 Y Y Y Y ?_)
     refine QS ?_
     refine QG ?_
     refine Qac ?_
     refine Qdk ?_
     refine Zb 104 Y Y Y (Ze (xs:=[.tmp 102,.tmp 103]) Yp Y Y Y Y Y Y (Xb Y) ?_)
     refine Qx ?_
     refine Qao ?_
     refine Zb 107 Y Y Y (Zi (ns:=[0,4,7]) (xs:=[.const (.int .i64 5),.tmp 104,.tmp 106]) Y tz_47 Y tfl_47 Y Y Y Y ?_)
     refine Qec ?_
     refine Qo ?_
     rw [if_neg g75,if_neg g84] at hz;subst hz;exact Zl (i:=4) rfl rfl rfl Ya rfl by2 by5 ⟨rfl,rfl⟩
    refine Q7 ?_
    refine Qdk ?_
    refine QcO ?_
    refine Zb 87 Y Y Y (Ze (xs:=[.tmp 85,.tmp 86]) Yp Y Y Y Y Y Y (Xb Y) ?_)
    refine Qa8 ?_
    refine Zb 90 Y Y Y (Zi (ns:=[0,4,7]) (xs:=[.const (.int .i64 11),.tmp 87,.tmp 89]) Y tz_47 Y tfl_47 Y Y Y Y ?_)
    refine Qc2 ?_
    refine Qo ?_
    rw [if_neg g75,if_pos g84] at hz;subst hz;exact Zl (i:=3) rfl rfl rfl Ya rfl by2 by5 ⟨rfl,rfl⟩
   refine Q7 ?_
   refine Qdk ?_
   refine QcO ?_
   refine Zb 78 Y Y Y (Ze (xs:=[.tmp 76,.tmp 77]) Yp Y Y Y Y Y Y (Xb Y) ?_)
   refine Qa8 ?_
   refine Zb 81 Y Y Y (Zi (ns:=[0,4,7]) (xs:=[.const (.int .i64 10),.tmp 78,.tmp 80]) Y tz_47 Y tfl_47 Y Y Y Y ?_)
   refine Qc2 ?_
   refine Qo ?_
   rw [if_pos g75] at hz;subst hz;exact Zl (i:=3) rfl rfl rfl Ya rfl by2 by5 ⟨rfl,rfl⟩
  refine Qaf ?_
  refine QO ?_
  refine Zb 34 Y Y Y (Zo Y te_86 Y (.seq _ _) Y Y (toks_at (ops:=ops) (i:=t) by16) ?_)
  refine Ql ?_
  refine Zb 37 Y Y Y (Zd (xs:=[.tmp 36]) Y Y (Level_at ops t) by3 ?_)
  refine Qd ?_
  refine QO ?_
  refine Zb 40 Y Y Y (Zo Y te_86 Y (.seq _ _) Y Y (toks_at (ops:=ops) (i:=i) by16) ?_)
  refine Ql ?_
  refine Zb 43 Y Y Y (Zd (xs:=[.tmp 42]) Y Y (Level_at ops i) by3 ?_)
  refine Qau ?_
  refine Zt 56 (lvT ops i<lvT ops t∨(lvT ops i=lvT ops t∧sideN (lvT ops t)=1)) ?_ _ _ Y ?_
  ·skip
   refine QaF ?_
   refine Qm ?_;intro c46 h46
   refine Qb ?_
   obtain ⟨rfl,g46⟩|⟨rfl,g46⟩:=Za h46
   ·skip
    refine Qc ?_
    refine QW ?_;intro c50 h50
    refine Qc ?_
    obtain ⟨rfl,g50⟩|⟨rfl,g50⟩:=Za h50
    ·skip
     refine Qad ?_
     refine QX ?_
     refine Qf ?_
     refine Yz Y ?_ by7 by5
     clear H1 H2;first|(simp_all;done)|(simp_all;omega)|grind
    skip
    refine Qc ?_
    refine Zk 53 Y Y Y Y Y (Zd (xs:=[.tmp 52]) Y Y (Side_p (lvT ops t)) by3 ?_)
    refine Qah ?_;intro c54 h54
    refine QX ?_
    refine Qf ?_
    refine Yz Y ?_ by7 by5
    clear H1 H2;first|(simp_all;done)|(simp_all;omega)|grind
   skip
   refine Qh ?_
   refine QaC ?_
   refine QcA ?_
   refine Q1 ?_
   refine Qf ?_
   refine Yz Y ?_ by7 by5
   clear H1 H2;first|(simp_all;done)|(simp_all;omega)|grind
  intro c56 h56
  refine Qe ?_
  obtain ⟨rfl,g56⟩|⟨rfl,g56⟩:=Za h56
  ·refine QaD ?_
   refine QaU ?_
   obtain ⟨f,hf⟩:∃ f,b - i=f+1:=⟨b - i - 1,by omega⟩
   rw [hf,rootB] at hu
   have hf2:f=b - (i+1):=by omega
   rw [hf2] at hu
   refine Qbu ?_
   refine Qaj ?_
   first
   |(rw [if_pos g56] at hu;exact ⟨(i,i+1),⟨by show a≤i;omega,Nat.lt_succ_self i,by show i+1≤b;omega,hu⟩,by show b - (i+1)<b - i;omega,Yy rfl (Yv _) (Yy rfl (Le.inteq by16) by6),by5⟩)
   |(rw [if_neg g56] at hu;exact ⟨(t,i+1),⟨h1,by show t<i+1;omega,by show i+1≤b;omega,hu⟩,by show b - (i+1)<b - i;omega,Yy rfl (Yv _) (Yy rfl (Le.inteq by16) by6),by5⟩)
  refine QaM ?_
  refine QbM ?_
  refine QaU ?_
  obtain ⟨f,hf⟩:∃ f,b - i=f+1:=⟨b - i - 1,by omega⟩
  rw [hf,rootB] at hu
  have hf2:f=b - (i+1):=by omega
  rw [hf2] at hu
  refine Qbu ?_
  refine Qaj ?_
  first
  |(rw [if_pos g56] at hu;exact ⟨(i,i+1),⟨by show a≤i;omega,Nat.lt_succ_self i,by show i+1≤b;omega,hu⟩,by show b - (i+1)<b - i;omega,Yy rfl (Yv _) (Yy rfl (Le.inteq by16) by6),by5⟩)
  |(rw [if_neg g56] at hu;exact ⟨(t,i+1),⟨h1,by show t<i+1;omega,by show i+1≤b;omega,hu⟩,by show b - (i+1)<b - i;omega,Yy rfl (Yv _) (Yy rfl (Le.inteq by16) by6),by5⟩)
 omega
theorem Build_c (l:List Ex) (ops:List Tok) (hl:l.length=ops.length+1) (hL:ops.length≤200000):∀ (d a b:Nat),a≤b→b≤ops.length→b - a≤d→PCall Try.prog 59 [.seq 11 (Ex.cellss l),.seq 4 (ops.map Tok.av),.val (.int .i64 a),.val (.int .i64 b)] (.agg (buildF l ops d a b).cells)
 | 0,a,b,h1,h2,h3=>by
  obtain rfl:a=b:=by omega
  exact Build_one l ops hl a h2
 | d+1,a,b,h1,h2,h3=>by
  by_cases h:a=b
  ·subst h
   rw [buildF,if_pos rfl]
   exact Build_one l ops hl a h2
  exact Build_two l ops hL a b d by16 h2 h3 (Build_c l ops hl hL d)
end Go.Proofs.Ytefbicnoddggnaa
