/- Parts of a proof: cognateref05.Texts, SameType, SameTypes; cognatelaw08.ints; slices.EqualFunc and tree.same, for lists of types, patterns, expressions, alternatives, binds: alike under a map.; slices.EqualFunc and tree.same, for lists of declarations: alike under a map (printed by wip/gend.py).; sameness of types, patterns, expressions: tree.SameType, SamePat, Same, sameBind, and the document's; Equality of declarations: tree.SameProg and what it calls, cognateref05.SameProg and what it calls.; small functions of layers 5 and 8: Has, HasInt, Index, Contains, IsFun, fun, Fun, Con, Clone, kids; tree.Names, cognateref05.Names; tree.search; tree.Free; tree.search.exp, tree.Free; tree.parts as an iterator; tree.Size and tree.Deep; cognateref05.Parts, Size, Deep; tree.Value, cognateref05.Value; cognatelaw05.Awake; cognatelaw05.Awake; cognateref05.Parts, Size, Deep; cognatelaw05.Count, Small; cognateref05.Size, Deep; cognatelaw05.Count, Small; cognatelaw05.Count, Small; cognateref05.SameProg and what it calls; cognatelaw05.Few.; Bytes as a text.; The logic of trees, part 18: calls of what Go gives without a body; texts, greater.; the document's lexer: what bytes are; the document's lexer: over; the document's lexer: among, Key, Mark; Utf, bad; the document's lexer: bad; the document's lexer: text; cognateref01.Parse of digits; the document's lexer: one; the document's lexer: one, names and signs; the document's lexer: one, digits; the document's lexer: one, Scan; the document's lexer: Scan; the document's parser: next, is; the document's parser: it goes on, and never comes out of the tokens; the document's parser: it goes on: expressions, declarations; The logic of trees, part 19: calls that turn one piece of the memory; a nil as a slice of the call's own.; the document's parser: fail, take, may, deeper; the document's parser: name, uppers, starts; the document's parser: atype, Type -/
import Derived.Test.YtefbicnoddggnaaGreatKLKAll2
import Derived.Laws.BytesArg
import Derived.Lib.Bytealg
set_option maxRecDepth 100000
set_option maxHeartbeats 4000000
namespace Go.Proofs.YtefbicnoddggnaaGreat
open Go.RowKit
theorem Yw {p:Prop} (h:¬ p):(false=true↔p):=by simp [h]
theorem iff_t {p:Prop} (h:p):(true=true↔p):=by simp [h]
theorem Texts_c (xs ys:List ByteArray):BCall Tryz.prog 53 [.seq 1 (strs xs),.seq 1 (strs ys)] (xs=ys):=by
 have hlx:=Yz xs
 have hly:=Yz ys
 refine Zc Tryz.func53 Y (by kernel_rfl) Y (Xm Y) ?_
 refine Q5 ?_
 refine c_lens (t:=0) Y (.seq _ _) (fun hmax=>?_)
 refine QK ?_
 refine Qw ?_
 refine Qa4 ?_;intro n7
 refine Qb ?_
 refine Qa4 ?_;intro n9
 refine Qao ?_;intro c10 h10
 refine Qa ?_
 obtain ⟨rfl,g10⟩|⟨rfl,g10⟩:=Za h10
 ·refine Qci ?_
  refine c_loop (σ:=Nat) (fun zz=>match zz with|i=>[(0,.seq 1 (strs xs)),(1,.seq 1 (strs ys)),(5,.val (.int .i64 i))]) (fun zz=>match zz with|i=>[]) (fun zz=>match zz with|i=>i≤xs.length∧Upto xs ys i) (fun zz=>match zz with|i=>xs.length - i) (0) ?_ ?_ ?_ ?_
  ·exact ⟨by omega,Upto.zero _ _⟩
  ·exact by6
  ·exact by5
  rintro i hI
  try dsimp only [List.cons_append,List.nil_append] at hI ⊢
  obtain ⟨hi,hu⟩:=hI
  refine Qal ?_
  refine Qa4 ?_;intro n13
  refine Qk ?_;intro c14 h14
  refine Qa ?_
  obtain ⟨rfl,g14⟩|⟨rfl,g14⟩:=Za h14
  ·refine QaM ?_
   exact Zg Y Y (Xg _) by5 ⟨⟨_,iff_t (hu.eq by18 by18),Y⟩,Y⟩
  refine Qx ?_
  obtain ⟨x,hx⟩:=Zo (l:=xs) (i:=i) by18
  obtain ⟨y,hy⟩:=Zo (l:=ys) (i:=i) by18
  have hcx:=strs_get hx
  have hcy:=strs_get hy
  refine QbP ?_
  refine QR ?_
  refine Qev ?_
  refine Qdt ?_
  refine QR ?_
  refine QR ?_
  refine Qev ?_
  refine Qdt ?_
  refine Yp 25 Y Y (fun _ q=>op_sneq Y Y Y q) ?_;intro c25 h25
  show AGo _ _ _ _ _ _ _
  refine Qc ?_
  obtain ⟨rfl,g25⟩|⟨rfl,g25⟩:=Za h25
  ·refine Q8 ?_
   exact ⟨i+1,⟨by omega,hu.succ hx hy (by simpa using g25)⟩,by simp;omega,by6,by5⟩
  refine Qr ?_
  exact Zg Y Y (Xg _) by5 ⟨⟨_,Yw (at_ne hx hy g25),Y⟩,Y⟩
 refine Qr ?_
 exact Zg Y Y (Xg _) by5 ⟨⟨_,Yw (len_ne by18),Y⟩,Y⟩
theorem SameTypes_of (d:Nat) (ih:∀ a b:Ty,a.size≤d→BCall Tryz.prog 55 [.agg a.cells,.agg b.cells] (a=b)) (xs ys:List Ty) (hd:Ty.sizes xs≤d):BCall Tryz.prog 54 [.seq 4 (Ty.cellss xs),.seq 4 (Ty.cellss ys)] (xs=ys):=by
 have hlx:=Ty.cellss_len xs
 have hly:=Ty.cellss_len ys
 refine Zc Tryz.func54 Y (by kernel_rfl) Y (Xm Y) ?_
 refine Q5 ?_
 refine c_lens (t:=0) Y (.seq _ _) (fun hmax=>?_)
 refine QK ?_
 refine Qw ?_
 refine QW ?_;intro n7
 refine Qb ?_
 refine QW ?_;intro n9
 refine Qao ?_;intro c10 h10
 refine Qa ?_
 obtain ⟨rfl,g10⟩|⟨rfl,g10⟩:=Za h10
 ·refine Qci ?_
  refine c_loop (σ:=Nat) (fun zz=>match zz with|i=>[(0,.seq 4 (Ty.cellss xs)),(1,.seq 4 (Ty.cellss ys)),(5,.val (.int .i64 i))]) (fun zz=>match zz with|i=>[]) (fun zz=>match zz with|i=>i≤xs.length∧Upto xs ys i) (fun zz=>match zz with|i=>xs.length - i) (0) ?_ ?_ ?_ ?_
  ·exact ⟨by omega,Upto.zero _ _⟩
  ·exact by6
  ·exact by5
  rintro i hI
  try dsimp only [List.cons_append,List.nil_append] at hI ⊢
  obtain ⟨hi,hu⟩:=hI
  refine Qal ?_
  refine QW ?_;intro n13
  refine Qk ?_;intro c14 h14
  refine Qa ?_
  obtain ⟨rfl,g14⟩|⟨rfl,g14⟩:=Za h14
  ·refine QaM ?_
   exact Zg Y Y (Xg _) by5 ⟨⟨_,iff_t (hu.eq by18 by18),Y⟩,Y⟩
  refine Qx ?_
  obtain ⟨⟨k1,s1,n1,ks1⟩,hx⟩:=Zo (l:=xs) (i:=i) by18
  obtain ⟨⟨k2,s2,n2,ks2⟩,hy⟩:=Zo (l:=ys) (i:=i) by18
  have hcx:=Ty.cellss_get hx
  have hcy:=Ty.cellss_get hy
  have hsz:=Ty.size_at hx
  refine QbP ?_
  refine QR ?_
  refine Qew ?_
  refine Qex ?_
  refine QR ?_
  refine QR ?_
  refine Qew ?_
  refine Qex ?_
  refine Yp 25 Y Y (fun _ q=>Zl (xs:=[.tmp 20,.tmp 24]) Y Y (ih (.mk k1 s1 n1 ks1) (.mk k2 s2 n2 ks2) by18) by3 q) ?_;intro c25 h25
  refine Yp 26 Y Y (fun _ q=>op_notc Y Y q) ?_;intro c26 h26
  try replace h26:=nott h26 h25
  show AGo _ _ _ _ _ _ _
  refine Qc ?_
  obtain ⟨rfl,g26⟩|⟨rfl,g26⟩:=Za h26
  ·refine Q8 ?_
   exact ⟨i+1,⟨by omega,hu.succ hx hy (Classical.not_not.1 g26)⟩,by simp;omega,by6,by5⟩
  refine Qr ?_
  exact Zg Y Y (Xg _) by5 ⟨⟨_,Yw (at_ne hx hy g26),Y⟩,Y⟩
 refine Qr ?_
 exact Zg Y Y (Xg _) by5 ⟨⟨_,Yw (len_ne by18),Y⟩,Y⟩
theorem SameType_of (d:Nat) (ih:∀ xs ys:List Ty,Ty.sizes xs≤d→BCall Tryz.prog 54 [.seq 4 (Ty.cellss xs),.seq 4 (Ty.cellss ys)] (xs=ys)) (a b:Ty) (hd:a.size≤d+1):BCall Tryz.prog 55 [.agg a.cells,.agg b.cells] (a=b):=by
 obtain ⟨k1,s1,n1,ks1⟩:=a
 obtain ⟨k2,s2,n2,ks2⟩:=b
 rw [Ty.size] at hd
 refine Zc Tryz.func55 Y (by kernel_rfl) Y (Xm Y) ?_
 refine Qn ?_
 refine Zb 2 Y Y Y (op_boxe (cs':=[_,_,_,_]) Y Y Y Y ?_);intro b2
 refine Zb 3 Y Y Y (op_boxe (cs':=[_,_,_,_]) Y Y Y Y ?_);intro b3
 refine Qaw ?_
 refine Zx 4 (Ty.mk k1 s1 n1 ks1=Ty.mk k2 s2 n2 ks2) ?_ _ _ Y ?_
 ·skip
  refine Qu ?_
  refine Qbj ?_
  refine Qar ?_
  refine Qj ?_;intro c9 h9
  refine Qb ?_
  obtain ⟨rfl,g9⟩|⟨rfl,g9⟩:=Za h9
  ·skip
   refine Qa9 ?_
   refine Q1 ?_
   refine QZ ?_
   refine Q1 ?_
   refine QZ ?_
   refine QM ?_
   refine Xk Y ?_ by7 by5
   simp_all
  skip
  refine Qb4 ?_
  refine Qdd ?_
  refine QaZ ?_
  refine Qd0 ?_;intro c15 h15
  refine Qq ?_
  obtain ⟨rfl,g15⟩|⟨rfl,g15⟩:=Za h15
  ·skip
   refine Qa9 ?_
   refine Q1 ?_
   refine QZ ?_
   refine QM ?_
   refine Xk Y ?_ by7 by5
   simp_all
  skip
  refine Qb4 ?_
  refine Qdd ?_
  refine QaZ ?_
  refine Qan ?_;intro c22 h22
  refine Qq ?_
  obtain ⟨rfl,g22⟩|⟨rfl,g22⟩:=Za h22
  ·skip
   refine Qa9 ?_
   refine QM ?_
   refine Xk Y ?_ by7 by5
   simp_all
  skip
  refine Qb4 ?_
  refine Qdd ?_
  refine QaZ ?_
  refine Zm 29 Y Y Y Y Y (Zl (xs:=[.tmp 26,.tmp 28]) Y Y (ih ks1 ks2 by18) by3 ?_);intro c29 h29
  refine QM ?_
  refine Xk Y ?_ by7 by5
  simp_all
 intro c4 h4
 refine QX ?_
 exact Zg Y Y (Xg _) by5 ⟨⟨_,h4,Y⟩,Y⟩
theorem SameTy_all (d:Nat):(∀ a b:Ty,a.size≤d→BCall Tryz.prog 55 [.agg a.cells,.agg b.cells] (a=b))∧(∀ xs ys:List Ty,Ty.sizes xs≤d→BCall Tryz.prog 54 [.seq 4 (Ty.cellss xs),.seq 4 (Ty.cellss ys)] (xs=ys)):=by
 induction d with
 | zero =>
  have h1:∀ a b:Ty,a.size≤0→BCall Tryz.prog 55 [.agg a.cells,.agg b.cells] (a=b):=fun a b h=>by have:=Ty.size_pos a;omega
  exact ⟨h1,SameTypes_of 0 h1⟩
 | succ d ih=>exact ⟨SameType_of d ih.2,SameTypes_of (d+1) (SameType_of d ih.2)⟩
theorem SameType_c (a b:Ty):BCall Tryz.prog 55 [.agg a.cells,.agg b.cells] (a=b):=(SameTy_all a.size).1 a b (Nat.le_refl _)
theorem SameTypes_c (xs ys:List Ty):BCall Tryz.prog 54 [.seq 4 (Ty.cellss xs),.seq 4 (Ty.cellss ys)] (xs=ys):=(SameTy_all (Ty.sizes xs)).2 xs ys (Nat.le_refl _)
end Go.Proofs.YtefbicnoddggnaaGreat
namespace Go.Proofs.YtefbicnoddggnaaGreat
open Go.RowKit
theorem rSamePat_c (a:Pa):∀ b:Pa,BCall Tryz.prog 84 [.agg a.cells,.agg b.cells] (a.bare=b.bare):=by
 obtain ⟨k1,s1,n1,ks1,p1⟩:=a
 rintro ⟨k2,s2,n2,ks2,p2⟩
 have IH:∀ x∈ks1,∀ y:Pa,BCall Tryz.prog 84 [.agg x.cells,.agg y.cells] (x.bare=y.bare):=fun x hx y=>rSamePat_c x y
 have hl1:=Pa.cellss_len ks1
 have hl2:=Pa.cellss_len ks2
 refine Zc Tryz.func84 Y (by kernel_rfl) Y (Xm Y) ?_
 refine Q5 ?_
 refine c_lena (t:=0) (j:=3) Y Y (.seq _ _) (fun hmax=>?_)
 refine Qo ?_
 refine QaU ?_
 refine QaU ?_
 refine Qba ?_
 refine Zx 33 (¬ (k1=k2∧s1=s2∧n1=n2∧ks1.length=ks2.length)) ?_ _ _ Y ?_
 ·skip
  refine QbC ?_
  refine Qao ?_;intro c10 h10
  refine Qb ?_
  obtain ⟨rfl,g10⟩|⟨rfl,g10⟩:=Za h10
  ·skip
   refine QbR ?_
   refine QcH ?_;intro c16 h16
   refine Qq ?_
   obtain ⟨rfl,g16⟩|⟨rfl,g16⟩:=Za h16
   ·skip
    refine QbR ?_
    refine QaD ?_;intro c23 h23
    refine Qq ?_
    obtain ⟨rfl,g23⟩|⟨rfl,g23⟩:=Za h23
    ·skip
     refine QC ?_
     refine Zm 28 Y Y Y Y Y (Yk Y tu_61 Y (.seq _ _) (fun n28=>?_))
     refine QC ?_
     refine Zm 31 Y Y Y Y Y (Yk Y tu_61 Y (.seq _ _) (fun n31=>?_))
     refine QaD ?_;intro c32 h32
     refine Qg ?_
     refine Xk Y ?_ by7 by5
     simp_all;omega
    skip
    refine QbS ?_
    refine Qg ?_
    refine Xk Y ?_ by7 by5
    simp_all;done
   skip
   refine Qa9 ?_
   refine Qcj ?_
   refine Xk Y ?_ by7 by5
   simp_all;done
  skip
  refine Qa9 ?_
  refine Q1 ?_
  refine QZ ?_
  refine Qcj ?_
  refine Xk Y ?_ by7 by5
  simp_all;done
 intro c33 h33
 refine Qc ?_
 obtain ⟨rfl,g33⟩|⟨rfl,g33⟩:=Za h33
 ·refine Qci ?_
  refine c_loop (σ:=Nat) (fun zz=>match zz with|i=>[(2,.cptr (Pa.mk k1 s1 n1 ks1 p1).cells),(3,.cptr (Pa.mk k2 s2 n2 ks2 p2).cells),(5,.val (.int .i64 i))]) (fun zz=>match zz with|i=>[]) (fun zz=>match zz with|i=>i≤ks1.length∧Upto (ks1.map Pa.bare) (ks2.map Pa.bare) i) (fun zz=>match zz with|i=>ks1.length - i) (0) ?_ ?_ ?_ ?_
  ·exact ⟨by omega,Upto.zero _ _⟩
  ·exact by6
  ·exact by5
  rintro i hI
  try dsimp only [List.cons_append,List.nil_append] at hI ⊢
  obtain ⟨hi,hu⟩:=hI
  obtain ⟨e1,e2,e3,e4⟩:=Classical.not_not.1 g33
  refine QO ?_
  refine Qd1 ?_;intro n37
  refine Qk ?_;intro c38 h38
  refine Qa ?_
  obtain ⟨rfl,g38⟩|⟨rfl,g38⟩:=Za h38
  ·refine QaM ?_
   refine Zg Y Y (Xg _) by5 ⟨⟨_,iff_t ?_,Y⟩,Y⟩
   rw [Pa.bare_iff]
   exact ⟨e1,e2,e3,hu.eq (by simpa using e4) by15⟩
  refine Qx ?_
  obtain ⟨⟨xk,xs,xn,xks,xp⟩,hx⟩:=Zo (l:=ks1) (i:=i) by18
  obtain ⟨⟨yk,ys,yn,yks,yp⟩,hy⟩:=Zo (l:=ks2) (i:=i) by18
  have hcx:=Pa.cellss_get hx
  have hcy:=Pa.cellss_get hy
  refine Qb5 ?_
  refine Q9 ?_
  refine Qey ?_
  refine Qdw ?_
  refine Q9 ?_
  refine Qey ?_
  refine Qdw ?_
  refine Yp 51 Y Y (fun _ q=>Zl (xs:=[.tmp 45,.tmp 50]) Y Y (IH _ (Xq hx) ⟨yk,ys,yn,yks,yp⟩) by3 q) ?_;intro c51 h51
  refine Yp 52 Y Y (fun _ q=>op_notc Y Y q) ?_;intro c52 h52
  try replace h52:=nott h52 h51
  show AGo _ _ _ _ _ _ _
  refine Qc ?_
  obtain ⟨rfl,g52⟩|⟨rfl,g52⟩:=Za h52
  ·refine Q8 ?_
   exact ⟨i+1,⟨by omega,upto_map Pa.bare hu hx hy (Classical.not_not.1 g52)⟩,by simp;omega,by6,by5⟩
  refine Qr ?_
  refine Zg Y Y (Xg _) by5 ⟨⟨_,Yw (fun q=>?_),Y⟩,Y⟩
  rw [Pa.bare_iff] at q
  exact map_ne Pa.bare hx hy g52 q.2.2.2
 refine Qr ?_
 refine Zg Y Y (Xg _) by5 ⟨⟨_,Yw (fun q=>g33 ?_),Y⟩,Y⟩
 rw [Pa.bare_iff] at q
 exact ⟨q.1,q.2.1,q.2.2.1,by simpa using congrArg List.length q.2.2.2⟩
termination_by SizeOf.sizeOf a
decreasing_by exact Pa.lt_kid hx
theorem SameBinds_of (xs ys:List Bi) (IH:∀ x∈xs,∀ y:Ex,BCall Tryz.prog 56 [.agg x.e.cells,.agg y.cells] (x.e.bare=y.bare)):BCall Tryz.prog 29 [.seq 13 (Bi.cellss xs),.seq 13 (Bi.cellss ys)] (xs.map Bi.bare=ys.map Bi.bare):=by
 have hlx:=Bi.cellss_len xs
 have hly:=Bi.cellss_len ys
 refine Zc Tryz.func29 Y (by kernel_rfl) Y (Xm Y) ?_
 refine Q5 ?_
 refine c_lens (t:=0) Y (.seq _ _) (fun hmax=>?_)
 refine QK ?_
 refine Qw ?_
 refine Qc0 ?_;intro n7
 refine Qb ?_
 refine Qc0 ?_;intro n9
 refine Qao ?_;intro c10 h10
 refine Qa ?_
 obtain ⟨rfl,g10⟩|⟨rfl,g10⟩:=Za h10
 ·refine Qci ?_
  refine c_loop (σ:=Nat) (fun zz=>match zz with|i=>[(0,.seq 13 (Bi.cellss xs)),(1,.seq 13 (Bi.cellss ys)),(5,.val (.int .i64 i))]) (fun zz=>match zz with|i=>[]) (fun zz=>match zz with|i=>i≤xs.length∧Upto (xs.map Bi.bare) (ys.map Bi.bare) i) (fun zz=>match zz with|i=>xs.length - i) (0) ?_ ?_ ?_ ?_
  ·exact ⟨by omega,Upto.zero _ _⟩
  ·exact by6
  ·exact by5
  rintro i hI
  try dsimp only [List.cons_append,List.nil_append] at hI ⊢
  obtain ⟨hi,hu⟩:=hI
  refine Qal ?_
  refine Qc0 ?_;intro n13
  refine Qk ?_;intro c14 h14
  refine Qa ?_
  obtain ⟨rfl,g14⟩|⟨rfl,g14⟩:=Za h14
  ·refine QaM ?_
   exact Zg Y Y (Xg _) by5 ⟨⟨_,iff_t (hu.eq by15 by15),Y⟩,Y⟩
  refine Qx ?_
  obtain ⟨⟨bs1,⟨k1,s1,n1,⟨tk1,ts1,tn1,tks1⟩,ks1,al1,bb1,p1⟩,bp1⟩,hx⟩:=Zo (l:=xs) (i:=i) by18
  obtain ⟨⟨bs2,⟨k2,s2,n2,⟨tk2,ts2,tn2,tks2⟩,ks2,al2,bb2,p2⟩,bp2⟩,hy⟩:=Zo (l:=ys) (i:=i) by18
  have hcx:=Bi.cellss_get hx
  have hcy:=Bi.cellss_get hy
  have HS:=IH _ (Xq hx) ⟨k2,s2,n2,⟨tk2,ts2,tn2,tks2⟩,ks2,al2,bb2,p2⟩
  have hne:=fun e=>map_ne Bi.bare hx hy e
  have heq:=fun e=>upto_map Bi.bare hu hx hy e
  rw [Bi.bare_iff] at hne heq
  simp only [Bi.e] at HS
  generalize (Ex.mk k1 s1 n1 ⟨tk1,ts1,tn1,tks1⟩ ks1 al1 bb1 p1).bare=e1 at *
  generalize (Ex.mk k2 s2 n2 ⟨tk2,ts2,tn2,tks2⟩ ks2 al2 bb2 p2).bare=e2 at *
  refine c_boold 41 (¬ (bs1=bs2∧e1=e2)) tmix Y ?_ _ _ Y ?_
  ·skip
   refine QR ?_
   refine QR ?_
   refine Qez ?_
   refine Q9 ?_
   refine QR ?_
   refine Qez ?_
   refine QbB ?_
   refine Yp 27 Y Y (fun _ q=>op_sneq Y Y Y q) ?_;intro c27 h27
   refine QR ?_
   obtain ⟨rfl,g27⟩|⟨rfl,g27⟩:=Za h27
   ·skip
    refine Qb7 ?_
    refine Qb7 ?_
    refine QeA ?_
    refine Qbk ?_
    refine Qde ?_
    refine Qb7 ?_
    refine Qb7 ?_
    refine QeA ?_
    refine Qbk ?_
    refine Qde ?_
    refine DOps.gtc 39 Y Y Y Y (fun _ q=>Zl (xs:=[.tmp 33,.tmp 38]) Y Y (HS) by3 q) ?_;intro c39 h39
    refine DOps.gtc 40 Y Y Y Y (fun _ q=>op_notc Y Y q) ?_;intro c40 h40
    try replace h40:=nott h40 h39
    refine QaK ?_
    show BoolQ _ _ _ _ _ _
    refine Xk Y ?_ by7 by5
    simp_all
   skip
   refine Qaf ?_
   refine Qaf ?_
   refine Qaf ?_
   refine QaK ?_
   show BoolQ _ _ _ _ _ _
   refine Xk Y ?_ by7 by5
   simp_all
  intro c41 h41
  refine Qc ?_
  obtain ⟨rfl,g41⟩|⟨rfl,g41⟩:=Za h41
  ·refine Q8 ?_
   exact ⟨i+1,⟨by omega,heq (Classical.not_not.1 g41)⟩,by simp;omega,by6,by5⟩
  refine Qr ?_
  exact Zg Y Y (Xg _) by5 ⟨⟨_,Yw (hne g41),Y⟩,Y⟩
 refine Qr ?_
 exact Zg Y Y (Xg _) by5 ⟨⟨_,Yw (map_len_ne _ by18),Y⟩,Y⟩
theorem rSame_c (a:Ex):∀ b:Ex,BCall Tryz.prog 56 [.agg a.cells,.agg b.cells] (a.bare=b.bare):=by
 obtain ⟨k1,s1,n1,⟨tk1,ts1,tn1,tks1⟩,ks1,al1,bb1,p1⟩:=a
 rintro ⟨k2,s2,n2,⟨tk2,ts2,tn2,tks2⟩,ks2,al2,bb2,p2⟩
 have HK:∀ x∈ks1,∀ y:Ex,BCall Tryz.prog 56 [.agg x.cells,.agg y.cells] (x.bare=y.bare):=fun x hx y=>rSame_c x y
 have HA:∀ x∈al1,∀ y:Ex,BCall Tryz.prog 56 [.agg x.e.cells,.agg y.cells] (x.e.bare=y.bare):=fun x hx y=>rSame_c x.e y
 have HB:=SameBinds_of bb1 bb2 (fun x hx y=>rSame_c x.e y)
 have HT:=SameType_c ⟨tk1,ts1,tn1,tks1⟩ ⟨tk2,ts2,tn2,tks2⟩
 have hk1:=Ex.cellss_len ks1
 have hk2:=Ex.cellss_len ks2
 have ha1:=Al.cellss_len al1
 have ha2:=Al.cellss_len al2
 rw [Ex.bare_iff]
 generalize bb1.map Bi.bare=mb1 at *
 generalize bb2.map Bi.bare=mb2 at *
 refine Zc Tryz.func56 Y (by kernel_rfl) Y (Xm Y) ?_
 refine Q5 ?_
 refine c_lena (t:=0) (j:=7) Y Y (.seq _ _) (fun hmax=>?_)
 refine c_lena (t:=0) (j:=8) Y Y (.seq _ _) (fun hmax2=>?_)
 refine Qo ?_
 refine Qc1 ?_
 refine Qc1 ?_
 refine Qba ?_
 refine Zx 59 (¬ (k1=k2∧s1=s2∧n1=n2∧Ty.mk tk1 ts1 tn1 tks1=Ty.mk tk2 ts2 tn2 tks2∧ks1.length=ks2.length∧al1.length=al2.length∧mb1=mb2)) ?_ _ _ Y ?_
 ·skip
  refine QbC ?_
  refine Qao ?_;intro c11 h11
  refine Qb ?_
  obtain ⟨rfl,g11⟩|⟨rfl,g11⟩:=Za h11
  ·skip
   refine QbR ?_
   refine QcH ?_;intro c17 h17
   refine Qq ?_
   obtain ⟨rfl,g17⟩|⟨rfl,g17⟩:=Za h17
   ·skip
    refine QbR ?_
    refine QaD ?_;intro c24 h24
    refine Qq ?_
    obtain ⟨rfl,g24⟩|⟨rfl,g24⟩:=Za h24
    ·skip
     refine QcZ ?_
     refine Qdx ?_
     refine QcZ ?_
     refine Qdx ?_
     refine Zm 31 Y Y Y Y Y (Zl (xs:=[.tmp 28,.tmp 30]) Y Y (HT) by3 ?_);intro c31 h31
     refine Qa5 ?_;intro c32 h32
     try replace h32:=nott h32 h31
     refine Qq ?_
     obtain ⟨rfl,g32⟩|⟨rfl,g32⟩:=Za h32
     ·skip
      refine QC ?_
      refine Qdy ?_;intro n37
      refine QC ?_
      refine Qdy ?_;intro n40
      refine QaD ?_;intro c41 h41
      refine Qq ?_
      obtain ⟨rfl,g41⟩|⟨rfl,g41⟩:=Za h41
      ·skip
       refine QC ?_
       refine Qdz ?_;intro n46
       refine QC ?_
       refine Qdz ?_;intro n49
       refine QaD ?_;intro c50 h50
       refine Qq ?_
       obtain ⟨rfl,g50⟩|⟨rfl,g50⟩:=Za h50
       ·skip
        refine QbR ?_
        refine Zm 57 Y Y Y Y Y (Zl (xs:=[.tmp 54,.tmp 56]) Y Y (HB) by3 ?_);intro c57 h57
        refine Qa5 ?_;intro c58 h58
        try replace h58:=nott h58 h57
        refine Qg ?_
        refine Xk Y ?_ by7 by5
        (have w1:ks1.length=ks2.length:=by18);(have w2:al1.length=al2.length:=by18);simp_all;done
       skip
       refine Qm ?_
       refine Qai ?_
       refine Xk Y ?_ by7 by5
       simp_all;omega
      skip
      refine QbS ?_
      refine Q1 ?_
      refine Qai ?_
      refine Xk Y ?_ by7 by5
      simp_all;omega
     skip
     refine QbS ?_
     refine Qcg ?_
     refine Q1 ?_
     refine Qai ?_
     refine Xk Y ?_ by7 by5
     simp_all;done
    skip
    refine Qck ?_
    refine Qcg ?_
    refine Qcg ?_
    refine Q1 ?_
    refine Qai ?_
    refine Xk Y ?_ by7 by5
    simp_all;done
   skip
   refine Qa9 ?_
   refine Q1 ?_
   refine Qad ?_
   refine Qcg ?_
   refine Qcg ?_
   refine Q1 ?_
   refine Qai ?_
   refine Xk Y ?_ by7 by5
   simp_all;done
  skip
  refine Qa9 ?_
  refine Q1 ?_
  refine QZ ?_
  refine Q1 ?_
  refine Qad ?_
  refine Qcg ?_
  refine Qcg ?_
  refine Q1 ?_
  refine Qai ?_
  refine Xk Y ?_ by7 by5
  simp_all;done
 intro c59 h59
 refine Qc ?_
 obtain ⟨rfl,g59⟩|⟨rfl,g59⟩:=Za h59
 ·refine Qci ?_
  obtain ⟨e1,e2,e3,e4,e5,e6,e7⟩:=Classical.not_not.1 g59
  refine c_loop (σ:=Nat) (fun zz=>match zz with|i=>[(2,.cptr (Ex.mk k1 s1 n1 ⟨tk1,ts1,tn1,tks1⟩ ks1 al1 bb1 p1).cells),(3,.cptr (Ex.mk k2 s2 n2 ⟨tk2,ts2,tn2,tks2⟩ ks2 al2 bb2 p2).cells),(5,.val (.int .i64 i))]) (fun zz=>match zz with|i=>[]) (fun zz=>match zz with|i=>i≤ks1.length∧Upto (ks1.map Ex.bare) (ks2.map Ex.bare) i) (fun zz=>match zz with|i=>ks1.length - i) (0) ?_ ?_ ?_ ?_
  ·exact ⟨by omega,Upto.zero _ _⟩
  ·exact by6
  ·exact by5
  rintro i hI
  try dsimp only [List.cons_append,List.nil_append] at hI ⊢
  obtain ⟨hi,hu⟩:=hI
  refine QO ?_
  refine Qd2 ?_;intro n63
  refine Qk ?_;intro c64 h64
  refine Qa ?_
  obtain ⟨rfl,g64⟩|⟨rfl,g64⟩:=Za h64
  ·refine QE ?_
   refine Q3 ?_
   have hks:=hu.eq (by simpa using e5) by15
   refine c_loop (σ:=Nat) (fun zz=>match zz with|j=>[(2,.cptr (Ex.mk k1 s1 n1 ⟨tk1,ts1,tn1,tks1⟩ ks1 al1 bb1 p1).cells),(3,.cptr (Ex.mk k2 s2 n2 ⟨tk2,ts2,tn2,tks2⟩ ks2 al2 bb2 p2).cells),(6,.val (.int .i64 j))]) (fun zz=>match zz with|j=>[]) (fun zz=>match zz with|j=>j≤al1.length∧Upto (al1.map Al.bare) (al2.map Al.bare) j) (fun zz=>match zz with|j=>al1.length - j) (0) ?_ ?_ ?_ ?_
   ·exact ⟨by omega,Upto.zero _ _⟩
   ·exact by6
   ·exact by5
   rintro j hI
   try dsimp only [List.cons_append,List.nil_append] at hI ⊢
   obtain ⟨hj,hv⟩:=hI
   refine QO ?_
   refine QcP ?_;intro n82
   refine Qk ?_;intro c83 h83
   refine Qa ?_
   obtain ⟨rfl,g83⟩|⟨rfl,g83⟩:=Za h83
   ·refine QaM ?_
    exact Zg Y Y (Xg _) by5 ⟨⟨_,iff_t ⟨e1,e2,e3,e4,hks,hv.eq (by simpa using e6) by15,e7⟩,Y⟩,Y⟩
   refine Qx ?_
   obtain ⟨⟨⟨xqk,xqs,xqn,xqks,xqp⟩,⟨xk,xs,xn,⟨xtk,xts,xtn,xtks⟩,xks,xal,xbs,xp⟩⟩,hx⟩:=Zo (l:=al1) (i:=j) by18
   obtain ⟨⟨⟨yqk,yqs,yqn,yqks,yqp⟩,⟨yk,ys,yn,⟨ytk,yts,ytn,ytks⟩,yks,yal,ybs,yp⟩⟩,hy⟩:=Zo (l:=al2) (i:=j) by18
   have hcx:=Al.cellss_get hx
   have hcy:=Al.cellss_get hy
   have HS:=HA _ (Xq hx) ⟨yk,ys,yn,⟨ytk,yts,ytn,ytks⟩,yks,yal,ybs,yp⟩
   have HP:=rSamePat_c ⟨xqk,xqs,xqn,xqks,xqp⟩ ⟨yqk,yqs,yqn,yqks,yqp⟩
   have hne:=fun e=>map_ne Al.bare hx hy e
   have heq:=fun e=>upto_map Al.bare hv hx hy e
   rw [Al.bare_iff] at hne heq
   simp only [Al.e] at HS
   generalize (Ex.mk xk xs xn ⟨xtk,xts,xtn,xtks⟩ xks xal xbs xp).bare=ex at *
   generalize (Ex.mk yk ys yn ⟨ytk,yts,ytn,ytks⟩ yks yal ybs yp).bare=ey at *
   generalize (Pa.mk xqk xqs xqn xqks xqp).bare=qx at *
   generalize (Pa.mk yqk yqs yqn yqks yqp).bare=qy at *
   refine c_boold 115 (¬ (qx=qy∧ex=ey)) tmix Y ?_ _ _ Y ?_
   ·skip
    refine Q9 ?_
    refine QeB ?_
    refine QdW ?_
    refine Qdw ?_
    refine Q9 ?_
    refine QeB ?_
    refine QdW ?_
    refine Qdw ?_
    refine Yp 98 Y Y (fun _ q=>Zl (xs:=[.tmp 91,.tmp 97]) Y Y (HP) by3 q) ?_;intro c98 h98
    refine Yp 99 Y Y (fun _ q=>op_notc Y Y q) ?_;intro c99 h99
    try replace h99:=nott h99 h98
    refine QR ?_
    obtain ⟨rfl,g99⟩|⟨rfl,g99⟩:=Za h99
    ·skip
     refine Qcl ?_
     refine QeC ?_
     refine Qbk ?_
     refine Qde ?_
     refine Qcl ?_
     refine QeC ?_
     refine Qbk ?_
     refine Qde ?_
     refine DOps.gtc 113 Y Y Y Y (fun _ q=>Zl (xs:=[.tmp 106,.tmp 112]) Y Y (HS) by3 q) ?_;intro c113 h113
     refine DOps.gtc 114 Y Y Y Y (fun _ q=>op_notc Y Y q) ?_;intro c114 h114
     try replace h114:=nott h114 h113
     refine QaK ?_
     show BoolQ _ _ _ _ _ _
     refine Xk Y ?_ by7 by5
     simp_all
    skip
    refine Qaf ?_
    refine Qaf ?_
    refine Qaf ?_
    refine QaJ ?_
    refine QaJ ?_
    refine QaK ?_
    show BoolQ _ _ _ _ _ _
    refine Xk Y ?_ by7 by5
    simp_all
   intro c115 h115
   refine Qc ?_
   obtain ⟨rfl,g115⟩|⟨rfl,g115⟩:=Za h115
   ·refine Q8 ?_
    exact ⟨j+1,⟨by omega,heq (Classical.not_not.1 g115)⟩,by simp;omega,by6,by5⟩
   refine Qr ?_
   exact Zg Y Y (Xg _) by5 ⟨⟨_,Yw (fun q=>hne g115 q.2.2.2.2.2.1),Y⟩,Y⟩
  refine Qx ?_
  obtain ⟨⟨xk,xs,xn,⟨xtk,xts,xtn,xtks⟩,xks,xal,xbs,xp⟩,hx⟩:=Zo (l:=ks1) (i:=i) by18
  obtain ⟨⟨yk,ys,yn,⟨ytk,yts,ytn,ytks⟩,yks,yal,ybs,yp⟩,hy⟩:=Zo (l:=ks2) (i:=i) by18
  have hcx:=Ex.cellss_get hx
  have hcy:=Ex.cellss_get hy
  refine Qb5 ?_
  refine Q9 ?_
  refine QeD ?_
  refine QeE ?_
  refine Q9 ?_
  refine QeD ?_
  refine QeE ?_
  refine Yp 77 Y Y (fun _ q=>Zl (xs:=[.tmp 71,.tmp 76]) Y Y (HK _ (Xq hx) ⟨yk,ys,yn,⟨ytk,yts,ytn,ytks⟩,yks,yal,ybs,yp⟩) by3 q) ?_;intro c77 h77
  refine Yp 78 Y Y (fun _ q=>op_notc Y Y q) ?_;intro c78 h78
  try replace h78:=nott h78 h77
  show AGo _ _ _ _ _ _ _
  refine Qc ?_
  obtain ⟨rfl,g78⟩|⟨rfl,g78⟩:=Za h78
  ·refine Q8 ?_
   exact ⟨i+1,⟨by omega,upto_map Ex.bare hu hx hy (Classical.not_not.1 g78)⟩,by simp;omega,by6,by5⟩
  refine Qr ?_
  exact Zg Y Y (Xg _) by5 ⟨⟨_,Yw (fun q=>map_ne Ex.bare hx hy g78 q.2.2.2.2.1),Y⟩,Y⟩
 refine Qr ?_
 exact Zg Y Y (Xg _) by5 ⟨⟨_,Yw (fun q=>g59 ⟨q.1,q.2.1,q.2.2.1,q.2.2.2.1,by simpa using congrArg List.length q.2.2.2.2.1,by simpa using congrArg List.length q.2.2.2.2.2.1,q.2.2.2.2.2.2⟩),Y⟩,Y⟩
termination_by SizeOf.sizeOf a
decreasing_by
 ·exact Ex.lt_kid hx
 ·exact Nat.lt_trans (Al.lt_e x) (Ex.lt_alt hx)
 exact Nat.lt_trans (Bi.lt_e x) (Ex.lt_bind hx)
theorem SameBinds_c (xs ys:List Bi):BCall Tryz.prog 29 [.seq 13 (Bi.cellss xs),.seq 13 (Bi.cellss ys)] (xs.map Bi.bare=ys.map Bi.bare):=SameBinds_of xs ys (fun x _ y=>rSame_c x.e y)
def Cn.key (x:Cn):=(x.s,x.ts)
def Da.key (x:Da):=(x.s,x.ps,x.cs.map Cn.key,x.dv)
def Me.key (x:Me):=(x.s,x.t)
def Cl.key (x:Cl):=(x.s,x.v,x.su,x.ms.map Me.key,x.ds.map Bi.bare)
def In.key (x:In):=(x.c,x.hd,x.cx,x.bs.map Bi.bare)
def Pg.key (x:Pg):=(x.da.map Da.key,x.cl.map Cl.key,x.ins.map In.key,x.bs.map Bi.bare)
theorem Has_c (xs:List ByteArray) (x:ByteArray):BCall Tryz.prog 25 [.seq 1 (strs xs),.val (.string x)] (x∈xs):=by
 have hlx:=Yz xs
 refine Zc Tryz.func25 Y (by kernel_rfl) Y (Xm Y) ?_
 refine Q5 ?_
 refine c_lens (t:=0) Y (.seq _ _) (fun hmax=>?_)
 refine Qcm ?_
 refine Q3 ?_
 refine c_loop (σ:=Nat) (fun zz=>match zz with|i=>[(0,.seq 1 (strs xs)),(1,.val (.string x)),(5,.val (.int .i64 i))]) (fun zz=>match zz with|i=>[]) (fun zz=>match zz with|i=>i≤xs.length∧x∉xs.take i) (fun zz=>match zz with|i=>xs.length - i) (0) ?_ ?_ ?_ ?_
 ·exact ⟨by omega,by simp⟩
 ·exact by6
 ·exact by5
 rintro i hI
 try dsimp only [List.cons_append,List.nil_append] at hI ⊢
 obtain ⟨hi,hu⟩:=hI
 refine Qal ?_
 refine Qa4 ?_;intro n8
 refine Qk ?_;intro c9 h9
 refine Qa ?_
 obtain ⟨rfl,g9⟩|⟨rfl,g9⟩:=Za h9
 ·refine QaM ?_
  exact Zg Y Y (Xg _) by5 ⟨⟨_,Yw (by rwa [List.take_of_length_le by18] at hu),Y⟩,Y⟩
 refine Qx ?_
 obtain ⟨y,hy⟩:=Zo (l:=xs) (i:=i) by18
 have hcy:=strs_get hy
 refine QF ?_
 refine Qd3 ?_
 refine QbG ?_
 refine Qb ?_
 refine Qas ?_;intro c17 h17
 refine Qa ?_
 obtain ⟨rfl,g17⟩|⟨rfl,g17⟩:=Za h17
 ·refine Q8 ?_
  exact ⟨i+1,⟨by omega,not_mem_take hu hy g17⟩,by simp;omega,by6,by5⟩
 refine Qr ?_
 exact Zg Y Y (Xg _) by5 ⟨⟨_,iff_t (by rw [← g17];exact Xq hy),Y⟩,Y⟩
theorem IndexS_c (xs:List ByteArray) (x:ByteArray):PCall Tryz.prog 49 [.seq 1 (strs xs),.val (.string x)] (.val (.int .i64 (firstAt x xs 0))):=by
 have hlx:=Yz xs
 refine Zc Tryz.func49 Y (by kernel_rfl) Y (Xm Y) ?_
 refine Q5 ?_
 refine c_lens (t:=0) Y (.seq _ _) (fun hmax=>?_)
 refine QK ?_
 refine Qw ?_
 refine Qa4 ?_;intro n7
 refine QaN ?_
 refine c_loop (σ:=Nat) (fun zz=>match zz with|i=>[(0,.seq 1 (strs xs)),(1,.val (.string x)),(7,.val (.int .i64 (strs xs).length)),(8,.val (.int .i64 i))]) (fun zz=>match zz with|i=>[]) (fun zz=>match zz with|i=>i≤xs.length∧x∉xs.take i) (fun zz=>match zz with|i=>xs.length - i) (0) ?_ ?_ ?_ ?_
 ·exact ⟨by omega,by simp⟩
 ·exact by6
 ·exact by5
 rintro i hI
 try dsimp only [List.cons_append,List.nil_append] at hI ⊢
 obtain ⟨hi,hu⟩:=hI
 refine QaO ?_;intro c9 h9
 refine Qv ?_
 obtain ⟨rfl,g9⟩|⟨rfl,g9⟩:=Za h9
 ·refine QaM ?_
  refine Zg Y Y (Xg _) by5 ⟨?_,Y⟩
  rw [← firstAt_drop x xs i hu,List.drop_eq_nil_of_le by18,firstAt]
 refine Qae ?_
 refine QJ ?_
 refine Qaw ?_
 obtain ⟨y,hy⟩:=Zo (l:=xs) (i:=i) by18
 have hcy:=strs_get hy
 refine QF ?_
 refine Qb ?_
 refine Qd3 ?_
 refine QbG ?_
 refine Qas ?_;intro c16 h16
 refine Qa ?_
 obtain ⟨rfl,g16⟩|⟨rfl,g16⟩:=Za h16
 ·refine Qau ?_
  refine Qax ?_
  exact ⟨i+1,⟨by omega,not_mem_take hu hy (fun e=>g16 e.symm)⟩,by simp;omega,by6,by5⟩
 refine QaP ?_
 refine Qs ?_
 refine Zg Y Y (Xg _) by5 ⟨?_,Y⟩
 rw [← firstAt_drop x xs i hu,drop_at hy,firstAt,if_pos g16]
theorem ContainsS_c (xs:List ByteArray) (x:ByteArray):BCall Tryz.prog 23 [.seq 1 (strs xs),.val (.string x)] (x∈xs):=by
 refine Zc Tryz.func23 Y (by kernel_rfl) Y (Xm Y) ?_
 refine Qa7 ?_
 refine QP ?_
 refine Zb 7 Y Y Y (Ze (xs:=[.tmp 5,.tmp 6]) Y Y (IndexS_c xs x) by3 ?_)
 refine QcG ?_;intro c8 h8
 refine Qs ?_
 exact Zg Y Y (Xg _) by5 ⟨⟨_,h8.trans (firstAt_nonneg x xs 0),Y⟩,Y⟩
def SM (b:Nat) (out bd:List Txt) (M:Mem):Prop:=∃ uo ao cap,M=[.loc b [.own uo 1 (strs out),.val (.slice ao (strs bd).length cap)],.own 9 1 uo,.row 9 1 (.slice ao (strs bd).length cap) (strs bd)]
theorem SM.start (b:Nat):MImp [.loc b [.val (.slice none 0 0),.val (.slice none 0 0)]] [.loc b [.own (.slice none 0 0) 1 (strs []),.val (.slice none (strs []).length 0)],.own 9 1 (.slice none 0 0),.row 9 1 (.slice none (strs []).length 0) (strs [])]:=fun B F Mf w x=>by
 have h:=(MImp.rowNil 9 1 [.own 9 1 (.slice none 0 0),.loc b [.val (.slice none 0 0),.val (.slice none 0 0)]]) B F Mf w (x.ownNil 9 1)
 have h2:Inv B F (.row 9 1 (.slice none 0 0) []::.own 9 1 (.slice none 0 0)::.loc b [.own (.slice none 0 0) 1 [],.val (.slice none 0 0)]::Mf) w:=by
  refine ⟨h.base,h.fix,fun r hr=>?_,?_⟩
  ·simp only [List.mem_cons] at hr
   rcases hr with rfl|rfl|rfl|hr
   ·exact h.ok _ by19
   ·exact h.ok _ by19
   ·obtain ⟨h1,h2,vs,T,h3,h4,h5⟩:=h.ok (.loc b [.val (.slice none 0 0),.val (.slice none 0 0)]) by19
    refine ⟨h1,h2,vs,T,h3,?_,h5⟩
    cases h4 with
    | cons k ks =>
     cases k
     exact .cons (.own _ (.seq0 1 none 0 (fun _=>Y))) ks
   exact h.ok r (by simp [hr])
  have:=h.far
  rw [far_map] at this ⊢
  simpa [Res.blk] using this
 refine h2.perm ?_
 have e:=List.reverse_perm [Res.loc b [.own (.slice none 0 0) 1 [],.val (.slice none 0 0)],.own 9 1 (.slice none 0 0),.row 9 1 (.slice none 0 0) []]
 exact e.append_right Mf
theorem MLe.left:∀ A B:Mem,MLe (A++B) A
 | [],_=>Xb _
 | _::A,B=>Xc _ (MLe.left A B)
theorem Bi.room {x:Bi} {bs:List Bi} (h:x∈bs):x.e.w+bs.length≤Bi.ws bs:=by
 induction bs with
 | nil=>simp at h
 | cons y bs ih =>
  have h2:=Bi.len_ws bs
  rw [Bi.ws,List.length_cons]
  rcases List.mem_cons.1 h with rfl|h
  ·cases x;simp only [Bi.e,Bi.w];omega
  have:=ih h
  cases y;rw [Bi.w];omega
def Ex.kind:Ex→Int|.mk k _ _ _ _ _ _ _=>k
end Go.Proofs.YtefbicnoddggnaaGreat
namespace Go.Proofs.YtefbicnoddggnaaGreat
open Go.RowKit
theorem ACall.bal {P:Program} {f:FuncId} {vs:List AV} {p q:Prop} (h:BCall P f vs p) (e:p↔q):BCall P f vs q :=
 h.mono (by rintro v M' ⟨⟨c,hc,rfl⟩,rfl⟩;exact ⟨⟨c,hc.trans e,rfl⟩,rfl⟩)
theorem rParts_c (e:Ex) (hp:e.parts.length≤1000000000):OCall Tryz.prog 57 [.agg e.cells] 58 11 (Ex.cellss e.parts):=by
 obtain ⟨k,s,n,⟨tk,ts,tn,tks⟩,ks,al,bs,p⟩:=e
 rw [Ex.parts] at hp ⊢
 have hlk:=Ex.cellss_len ks
 have hlb:=Bi.cellss_len bs
 have hla:=Al.cellss_len al
 obtain ⟨H1,hH1⟩:∃ H1,H1=(if k=7 then [] else ks):=⟨_,rfl⟩
 obtain ⟨H2,hH2⟩:∃ H2,H2=(if k=7 then ks else []):=⟨_,rfl⟩
 rw [← hH1,← hH2] at hp ⊢
 simp only [List.length_append,List.length_map] at hp
 have hk:H1.length+H2.length=ks.length:=by rw [hH1,hH2];split <;> simp
 refine Zc Tryz.func57 Y (by kernel_rfl) Y (Xm Y) ?_
 refine Q5 ?_
 refine c_lena (t:=0) (j:=8) Y Y (.seq _ _) (fun hmax1=>?_)
 refine c_lena (t:=0) (j:=9) Y Y (.seq _ _) (fun hmax2=>?_)
 refine Qo ?_
 refine Qc1 ?_
 refine Qf ?_
 refine QK ?_
 refine QL ?_
 refine ACode.ownNil (t:=3) 58 11 Y ?_
 refine Qi ?_
 refine Qy ?_
 refine Qao ?_;intro c8 h8
 refine Qa ?_
 obtain ⟨rfl,g8⟩|⟨rfl,g8⟩:=Za h8
 ·refine Qci ?_
  refine c_loop (σ:=Nat × Value) (fun zz=>match zz with|(i,u)=>[(1,.cptr (Ex.mk k s n ⟨tk,ts,tn,tks⟩ ks al bs p).cells),(3,.own u 11 (Ex.cellss (H1++(bs.take i).map Bi.e))),(4,.val (.int .i64 i))]) (fun zz=>match zz with|(i,u)=>[.own 58 11 u]) (fun zz=>match zz with|(i,u)=>i≤bs.length) (fun zz=>match zz with|(i,u)=>bs.length - i) ((0,.slice none 0 0)) ?_ ?_ ?_ ?_
  ·simp
  ·exact (by repeat' (first|exact SLe.nil _|refine Xj Y ?_ ?_|exact Xg _|exact Le.own _ _ _|exact Le.nil _|(refine Xl ?_;first|(rw [hH1,if_neg by18];simp;done)|(rw [hH1,if_pos by18];rfl))|(refine Le.own_seq ?_;first|(rw [hH1,if_neg by18];simp;done)|(rw [hH1,if_pos by18];rfl))|(refine Le.seq_eq ?_;first|(rw [hH1,if_neg by18];simp;done)|(rw [hH1,if_pos by18];rfl))))
  ·exact by5
  rintro ⟨i,u⟩ hI
  try dsimp only [List.cons_append,List.nil_append] at hI ⊢
  refine QO ?_
  refine Qc0 ?_;intro n16
  refine Qk ?_;intro c17 h17
  refine Qa ?_
  obtain ⟨rfl,g17⟩|⟨rfl,g17⟩:=Za h17
  ·refine Qbp ?_
   rw [List.take_of_length_le by18]
   have el:(Ex.cellss (H1++bs.map Bi.e)).length=H1.length+bs.length:=by
    rw [Ex.cellss_len];simp
   refine Qi ?_
   refine Qy ?_
   refine Qj ?_;intro c31 h31
   refine Qa ?_
   obtain ⟨rfl,g31⟩|⟨rfl,g31⟩:=Za h31
   ·refine Qci ?_
    refine c_loop (σ:=Nat × Value) (fun zz=>match zz with|(j,v)=>[(1,.cptr (Ex.mk k s n ⟨tk,ts,tn,tks⟩ ks al bs p).cells),(3,.own v 11 (Ex.cellss (H1++bs.map Bi.e++H2++(al.take j).map Al.e))),(5,.val (.int .i64 j))]) (fun zz=>match zz with|(j,v)=>[.own 58 11 v]) (fun zz=>match zz with|(j,v)=>j≤al.length) (fun zz=>match zz with|(j,v)=>al.length - j) ((0,u)) ?_ ?_ ?_ ?_
    ·simp
    ·exact (by repeat' (first|exact SLe.nil _|refine Xj Y ?_ ?_|exact Xg _|exact Le.own _ _ _|exact Le.nil _|(refine Xl ?_;first|omega|(rw [hH2,if_pos by18];simp [Ex.cellss_map];done)|(rw [hH2,if_neg by18];simp;done))|(refine Le.own_seq ?_;first|omega|(rw [hH2,if_pos by18];simp [Ex.cellss_map];done)|(rw [hH2,if_neg by18];simp;done))|(refine Le.seq_eq ?_;first|omega|(rw [hH2,if_pos by18];simp [Ex.cellss_map];done)|(rw [hH2,if_neg by18];simp;done))))
    ·exact by5
    rintro ⟨j,v⟩ hI
    try dsimp only [List.cons_append,List.nil_append] at hI ⊢
    refine QO ?_
    refine QcP ?_;intro n39
    refine Qk ?_;intro c40 h40
    refine Qa ?_
    obtain ⟨rfl,g40⟩|⟨rfl,g40⟩:=Za h40
    ·refine Qcn ?_
     refine Qs ?_
     refine Zg Y Y (Xl ?_) by5 ⟨_,Y,Y⟩
     rw [List.take_of_length_le by18]
    refine Qae ?_
    obtain ⟨⟨⟨qk,qs,qn,qks,qp⟩,⟨yk,yt,yn,⟨ytk,yts,ytn,ytks⟩,yks,yal,ybs,yp⟩⟩,hx⟩:=Zo (l:=al) (i:=j) by18
    have hcx:=Al.cellss_get hx
    have e:Ex.cellss (H1++bs.map Bi.e++H2++(al.take j).map Al.e)++[Ex.cells ⟨yk,yt,yn,⟨ytk,yts,ytn,ytks⟩,yks,yal,ybs,yp⟩]=Ex.cellss (H1++bs.map Bi.e++H2++(al.take (j+1)).map Al.e):=by
     rw [List.take_add_one,hx];simp [Ex.cellss_map,Al.e]
    have el2:(Ex.cellss (H1++bs.map Bi.e++H2++(al.take j).map Al.e)).length≤H1.length+bs.length+H2.length+al.length:=by
     rw [Ex.cellss_len];simp;omega
    refine Qe ?_
    refine Qay ?_
    refine QdA ?_
    refine Qbi ?_
    refine Qbs ?_
    refine QdB ?_
    refine Qc2 ?_
    intro u51
    refine Qaz ?_
    exact ⟨(j+1,u51),by simp;omega,by simp;omega,(by repeat' (first|exact SLe.nil _|refine Xj Y ?_ ?_|exact Xg _|exact Le.own _ _ _|exact Le.nil _|(refine Xl ?_;exact e)|(refine Le.own_seq ?_;exact e)|(refine Le.seq_eq ?_;exact e))),by5⟩
   refine Qbb ?_
   refine Qy ?_
   refine QeF ?_
   intro u35
   refine Qaw ?_
   refine Q3 ?_
   refine c_loop (σ:=Nat × Value) (fun zz=>match zz with|(j,v)=>[(1,.cptr (Ex.mk k s n ⟨tk,ts,tn,tks⟩ ks al bs p).cells),(3,.own v 11 (Ex.cellss (H1++bs.map Bi.e++H2++(al.take j).map Al.e))),(5,.val (.int .i64 j))]) (fun zz=>match zz with|(j,v)=>[.own 58 11 v]) (fun zz=>match zz with|(j,v)=>j≤al.length) (fun zz=>match zz with|(j,v)=>al.length - j) ((0,u35)) ?_ ?_ ?_ ?_
   ·simp
   ·exact (by repeat' (first|exact SLe.nil _|refine Xj Y ?_ ?_|exact Xg _|exact Le.own _ _ _|exact Le.nil _|(refine Xl ?_;first|omega|(rw [hH2,if_pos by18];simp [Ex.cellss_map];done)|(rw [hH2,if_neg by18];simp;done))|(refine Le.own_seq ?_;first|omega|(rw [hH2,if_pos by18];simp [Ex.cellss_map];done)|(rw [hH2,if_neg by18];simp;done))|(refine Le.seq_eq ?_;first|omega|(rw [hH2,if_pos by18];simp [Ex.cellss_map];done)|(rw [hH2,if_neg by18];simp;done))))
   ·exact by5
   rintro ⟨j,v⟩ hI
   try dsimp only [List.cons_append,List.nil_append] at hI ⊢
   refine QO ?_
   refine QcP ?_;intro n39
   refine Qk ?_;intro c40 h40
   refine Qa ?_
   obtain ⟨rfl,g40⟩|⟨rfl,g40⟩:=Za h40
   ·refine Qcn ?_
    refine Qs ?_
    refine Zg Y Y (Xl ?_) by5 ⟨_,Y,Y⟩
    rw [List.take_of_length_le by18]
   refine Qae ?_
   obtain ⟨⟨⟨qk,qs,qn,qks,qp⟩,⟨yk,yt,yn,⟨ytk,yts,ytn,ytks⟩,yks,yal,ybs,yp⟩⟩,hx⟩:=Zo (l:=al) (i:=j) by18
   have hcx:=Al.cellss_get hx
   have e:Ex.cellss (H1++bs.map Bi.e++H2++(al.take j).map Al.e)++[Ex.cells ⟨yk,yt,yn,⟨ytk,yts,ytn,ytks⟩,yks,yal,ybs,yp⟩]=Ex.cellss (H1++bs.map Bi.e++H2++(al.take (j+1)).map Al.e):=by
    rw [List.take_add_one,hx];simp [Ex.cellss_map,Al.e]
   have el2:(Ex.cellss (H1++bs.map Bi.e++H2++(al.take j).map Al.e)).length≤H1.length+bs.length+H2.length+al.length:=by
    rw [Ex.cellss_len];simp;omega
   refine Qe ?_
   refine Qay ?_
   refine QdA ?_
   refine Qbi ?_
   refine Qbs ?_
   refine QdB ?_
   refine Qc2 ?_
   intro u51
   refine Qaz ?_
   exact ⟨(j+1,u51),by simp;omega,by simp;omega,(by repeat' (first|exact SLe.nil _|refine Xj Y ?_ ?_|exact Xg _|exact Le.own _ _ _|exact Le.nil _|(refine Xl ?_;exact e)|(refine Le.own_seq ?_;exact e)|(refine Le.seq_eq ?_;exact e))),by5⟩
  refine Qae ?_
  obtain ⟨⟨ys,⟨yk,yt,yn,⟨ytk,yts,ytn,ytks⟩,yks,yal,ybs,yp⟩,yq⟩,hx⟩:=Zo (l:=bs) (i:=i) by18
  have hcx:=Bi.cellss_get hx
  have e:Ex.cellss (H1++(bs.take i).map Bi.e)++[Ex.cells ⟨yk,yt,yn,⟨ytk,yts,ytn,ytks⟩,yks,yal,ybs,yp⟩]=Ex.cellss (H1++(bs.take (i+1)).map Bi.e):=by
   rw [List.take_add_one,hx];simp [Ex.cellss_map,Bi.e]
  have el:(Ex.cellss (H1++(bs.take i).map Bi.e)).length≤H1.length+bs.length:=by
   rw [Ex.cellss_len];simp;omega
  refine Qe ?_
  refine Qay ?_
  refine QeG ?_
  refine Qbi ?_
  refine Qbs ?_
  refine QeH ?_
  refine Qc2 ?_
  intro u28
  refine Qaz ?_
  exact ⟨(i+1,u28),by simp;omega,by simp;omega,(by repeat' (first|exact SLe.nil _|refine Xj Y ?_ ?_|exact Xg _|exact Le.own _ _ _|exact Le.nil _|(refine Xl ?_;exact e)|(refine Le.own_seq ?_;exact e)|(refine Le.seq_eq ?_;exact e))),by5⟩
 refine Qbb ?_
 refine Qy ?_
 refine Zb 12 Y Y Y (Zr (i:=0) Xa Y Y Y Y (.seq _ _) (by simp only [List.length_nil];omega) ?_)
 intro u12
 refine Qaw ?_
 refine Q3 ?_
 refine c_loop (σ:=Nat × Value) (fun zz=>match zz with|(i,u)=>[(1,.cptr (Ex.mk k s n ⟨tk,ts,tn,tks⟩ ks al bs p).cells),(3,.own u 11 (Ex.cellss (H1++(bs.take i).map Bi.e))),(4,.val (.int .i64 i))]) (fun zz=>match zz with|(i,u)=>[.own 58 11 u]) (fun zz=>match zz with|(i,u)=>i≤bs.length) (fun zz=>match zz with|(i,u)=>bs.length - i) ((0,u12)) ?_ ?_ ?_ ?_
 ·simp
 ·exact (by repeat' (first|exact SLe.nil _|refine Xj Y ?_ ?_|exact Xg _|exact Le.own _ _ _|exact Le.nil _|(refine Xl ?_;first|(rw [hH1,if_neg by18];simp;done)|(rw [hH1,if_pos by18];rfl))|(refine Le.own_seq ?_;first|(rw [hH1,if_neg by18];simp;done)|(rw [hH1,if_pos by18];rfl))|(refine Le.seq_eq ?_;first|(rw [hH1,if_neg by18];simp;done)|(rw [hH1,if_pos by18];rfl))))
 ·exact by5
 rintro ⟨i,u⟩ hI
 try dsimp only [List.cons_append,List.nil_append] at hI ⊢
 refine QO ?_
 refine Qc0 ?_;intro n16
 refine Qk ?_;intro c17 h17
 refine Qa ?_
 obtain ⟨rfl,g17⟩|⟨rfl,g17⟩:=Za h17
 ·refine Qbp ?_
  rw [List.take_of_length_le by18]
  have el:(Ex.cellss (H1++bs.map Bi.e)).length=H1.length+bs.length:=by
   rw [Ex.cellss_len];simp
  refine Qi ?_
  refine Qy ?_
  refine Qj ?_;intro c31 h31
  refine Qa ?_
  obtain ⟨rfl,g31⟩|⟨rfl,g31⟩:=Za h31
  ·refine Qci ?_
   refine c_loop (σ:=Nat × Value) (fun zz=>match zz with|(j,v)=>[(1,.cptr (Ex.mk k s n ⟨tk,ts,tn,tks⟩ ks al bs p).cells),(3,.own v 11 (Ex.cellss (H1++bs.map Bi.e++H2++(al.take j).map Al.e))),(5,.val (.int .i64 j))]) (fun zz=>match zz with|(j,v)=>[.own 58 11 v]) (fun zz=>match zz with|(j,v)=>j≤al.length) (fun zz=>match zz with|(j,v)=>al.length - j) ((0,u)) ?_ ?_ ?_ ?_
   ·simp
   ·exact (by repeat' (first|exact SLe.nil _|refine Xj Y ?_ ?_|exact Xg _|exact Le.own _ _ _|exact Le.nil _|(refine Xl ?_;first|omega|(rw [hH2,if_pos by18];simp [Ex.cellss_map];done)|(rw [hH2,if_neg by18];simp;done))|(refine Le.own_seq ?_;first|omega|(rw [hH2,if_pos by18];simp [Ex.cellss_map];done)|(rw [hH2,if_neg by18];simp;done))|(refine Le.seq_eq ?_;first|omega|(rw [hH2,if_pos by18];simp [Ex.cellss_map];done)|(rw [hH2,if_neg by18];simp;done))))
   ·exact by5
   rintro ⟨j,v⟩ hI
   try dsimp only [List.cons_append,List.nil_append] at hI ⊢
   refine QO ?_
   refine QcP ?_;intro n39
   refine Qk ?_;intro c40 h40
   refine Qa ?_
   obtain ⟨rfl,g40⟩|⟨rfl,g40⟩:=Za h40
   ·refine Qcn ?_
    refine Qs ?_
    refine Zg Y Y (Xl ?_) by5 ⟨_,Y,Y⟩
    rw [List.take_of_length_le by18]
   refine Qae ?_
   obtain ⟨⟨⟨qk,qs,qn,qks,qp⟩,⟨yk,yt,yn,⟨ytk,yts,ytn,ytks⟩,yks,yal,ybs,yp⟩⟩,hx⟩:=Zo (l:=al) (i:=j) by18
   have hcx:=Al.cellss_get hx
   have e:Ex.cellss (H1++bs.map Bi.e++H2++(al.take j).map Al.e)++[Ex.cells ⟨yk,yt,yn,⟨ytk,yts,ytn,ytks⟩,yks,yal,ybs,yp⟩]=Ex.cellss (H1++bs.map Bi.e++H2++(al.take (j+1)).map Al.e):=by
    rw [List.take_add_one,hx];simp [Ex.cellss_map,Al.e]
   have el2:(Ex.cellss (H1++bs.map Bi.e++H2++(al.take j).map Al.e)).length≤H1.length+bs.length+H2.length+al.length:=by
    rw [Ex.cellss_len];simp;omega
   refine Qe ?_
   refine Qay ?_
   refine QdA ?_
   refine Qbi ?_
   refine Qbs ?_
   refine QdB ?_
   refine Qc2 ?_
   intro u51
   refine Qaz ?_
   exact ⟨(j+1,u51),by simp;omega,by simp;omega,(by repeat' (first|exact SLe.nil _|refine Xj Y ?_ ?_|exact Xg _|exact Le.own _ _ _|exact Le.nil _|(refine Xl ?_;exact e)|(refine Le.own_seq ?_;exact e)|(refine Le.seq_eq ?_;exact e))),by5⟩
  refine Qbb ?_
  refine Qy ?_
  refine QeF ?_
  intro u35
  refine Qaw ?_
  refine Q3 ?_
  refine c_loop (σ:=Nat × Value) (fun zz=>match zz with|(j,v)=>[(1,.cptr (Ex.mk k s n ⟨tk,ts,tn,tks⟩ ks al bs p).cells),(3,.own v 11 (Ex.cellss (H1++bs.map Bi.e++H2++(al.take j).map Al.e))),(5,.val (.int .i64 j))]) (fun zz=>match zz with|(j,v)=>[.own 58 11 v]) (fun zz=>match zz with|(j,v)=>j≤al.length) (fun zz=>match zz with|(j,v)=>al.length - j) ((0,u35)) ?_ ?_ ?_ ?_
  ·simp
  ·exact (by repeat' (first|exact SLe.nil _|refine Xj Y ?_ ?_|exact Xg _|exact Le.own _ _ _|exact Le.nil _|(refine Xl ?_;first|omega|(rw [hH2,if_pos by18];simp [Ex.cellss_map];done)|(rw [hH2,if_neg by18];simp;done))|(refine Le.own_seq ?_;first|omega|(rw [hH2,if_pos by18];simp [Ex.cellss_map];done)|(rw [hH2,if_neg by18];simp;done))|(refine Le.seq_eq ?_;first|omega|(rw [hH2,if_pos by18];simp [Ex.cellss_map];done)|(rw [hH2,if_neg by18];simp;done))))
  ·exact by5
  rintro ⟨j,v⟩ hI
  try dsimp only [List.cons_append,List.nil_append] at hI ⊢
  refine QO ?_
  refine QcP ?_;intro n39
  refine Qk ?_;intro c40 h40
  refine Qa ?_
  obtain ⟨rfl,g40⟩|⟨rfl,g40⟩:=Za h40
  ·refine Qcn ?_
   refine Qs ?_
   refine Zg Y Y (Xl ?_) by5 ⟨_,Y,Y⟩
   rw [List.take_of_length_le by18]
  refine Qae ?_
  obtain ⟨⟨⟨qk,qs,qn,qks,qp⟩,⟨yk,yt,yn,⟨ytk,yts,ytn,ytks⟩,yks,yal,ybs,yp⟩⟩,hx⟩:=Zo (l:=al) (i:=j) by18
  have hcx:=Al.cellss_get hx
  have e:Ex.cellss (H1++bs.map Bi.e++H2++(al.take j).map Al.e)++[Ex.cells ⟨yk,yt,yn,⟨ytk,yts,ytn,ytks⟩,yks,yal,ybs,yp⟩]=Ex.cellss (H1++bs.map Bi.e++H2++(al.take (j+1)).map Al.e):=by
   rw [List.take_add_one,hx];simp [Ex.cellss_map,Al.e]
  have el2:(Ex.cellss (H1++bs.map Bi.e++H2++(al.take j).map Al.e)).length≤H1.length+bs.length+H2.length+al.length:=by
   rw [Ex.cellss_len];simp;omega
  refine Qe ?_
  refine Qay ?_
  refine QdA ?_
  refine Qbi ?_
  refine Qbs ?_
  refine QdB ?_
  refine Qc2 ?_
  intro u51
  refine Qaz ?_
  exact ⟨(j+1,u51),by simp;omega,by simp;omega,(by repeat' (first|exact SLe.nil _|refine Xj Y ?_ ?_|exact Xg _|exact Le.own _ _ _|exact Le.nil _|(refine Xl ?_;exact e)|(refine Le.own_seq ?_;exact e)|(refine Le.seq_eq ?_;exact e))),by5⟩
 refine Qae ?_
 obtain ⟨⟨ys,⟨yk,yt,yn,⟨ytk,yts,ytn,ytks⟩,yks,yal,ybs,yp⟩,yq⟩,hx⟩:=Zo (l:=bs) (i:=i) by18
 have hcx:=Bi.cellss_get hx
 have e:Ex.cellss (H1++(bs.take i).map Bi.e)++[Ex.cells ⟨yk,yt,yn,⟨ytk,yts,ytn,ytks⟩,yks,yal,ybs,yp⟩]=Ex.cellss (H1++(bs.take (i+1)).map Bi.e):=by
  rw [List.take_add_one,hx];simp [Ex.cellss_map,Bi.e]
 have el:(Ex.cellss (H1++(bs.take i).map Bi.e)).length≤H1.length+bs.length:=by
  rw [Ex.cellss_len];simp;omega
 refine Qe ?_
 refine Qay ?_
 refine QeG ?_
 refine Qbi ?_
 refine Qbs ?_
 refine QeH ?_
 refine Qc2 ?_
 intro u28
 refine Qaz ?_
 exact ⟨(i+1,u28),by simp;omega,by simp;omega,(by repeat' (first|exact SLe.nil _|refine Xj Y ?_ ?_|exact Xg _|exact Le.own _ _ _|exact Le.nil _|(refine Xl ?_;exact e)|(refine Le.own_seq ?_;exact e)|(refine Le.seq_eq ?_;exact e))),by5⟩
theorem Le.of_eq {a b:AV} (h:a=b):Le a b:=h ▸ Xg _
end Go.Proofs.YtefbicnoddggnaaGreat
namespace Go.Proofs.YtefbicnoddggnaaGreat
open Go.RowKit
theorem rSameData_c (a b:Da):BCall Tryz.prog 26 [.agg a.cells,.agg b.cells] (a.key=b.key):=by
 obtain ⟨s1,ps1,cs1,dv1,p1⟩:=a
 obtain ⟨s2,ps2,cs2,dv2,p2⟩:=b
 have hk:((Da.mk s1 ps1 cs1 dv1 p1).key=(Da.mk s2 ps2 cs2 dv2 p2).key)=(s1=s2∧ps1=ps2∧cs1.map Cn.key=cs2.map Cn.key∧dv1=dv2):=by simp [Da.key,Da.s,Da.ps,Da.cs,Da.dv]
 have hl1:=Cn.cellss_len cs1
 have hl2:=Cn.cellss_len cs2
 rw [hk]
 refine Zc Tryz.func26 Y (by kernel_rfl) Y (Xm Y) ?_
 refine Q5 ?_
 refine c_lena (t:=0) (j:=2) Y Y (.seq _ _) (fun hmax=>?_)
 refine Qo ?_
 refine QaU ?_
 refine QaU ?_
 refine Qba ?_
 refine Zx 35 (¬ (s1=s2∧ps1=ps2∧dv1=dv2∧cs1.length=cs2.length)) ?_ _ _ Y ?_
 ·skip
  refine QbC ?_
  refine QcI ?_;intro c10 h10
  refine Qb ?_
  obtain ⟨rfl,g10⟩|⟨rfl,g10⟩:=Za h10
  ·skip
   refine QbR ?_
   refine Zm 16 Y Y Y Y Y (Zl (xs:=[.tmp 13,.tmp 15]) Y Y (Texts_c ps1 ps2) by3 ?_);intro c16 h16
   refine Qa5 ?_;intro c17 h17
   try replace h17:=nott h17 h16
   refine Qq ?_
   obtain ⟨rfl,g17⟩|⟨rfl,g17⟩:=Za h17
   ·skip
    refine QbR ?_
    refine Zm 24 Y Y Y Y Y (Zl (xs:=[.tmp 21,.tmp 23]) Y Y (Texts_c dv1 dv2) by3 ?_);intro c24 h24
    refine Qa5 ?_;intro c25 h25
    try replace h25:=nott h25 h24
    refine Qq ?_
    obtain ⟨rfl,g25⟩|⟨rfl,g25⟩:=Za h25
    ·skip
     refine QC ?_
     refine QdC ?_;intro n30
     refine QC ?_
     refine QdC ?_;intro n33
     refine QaD ?_;intro c34 h34
     refine Qg ?_
     refine Xk Y ?_ by7 by5
     simp_all;omega
    skip
    refine QbS ?_
    refine Qg ?_
    refine Xk Y ?_ by7 by5
    simp_all;done
   skip
   refine Qck ?_
   refine Qcj ?_
   refine Xk Y ?_ by7 by5
   simp_all;done
  skip
  refine Qck ?_
  refine Q1 ?_
  refine Qad ?_
  refine Qcj ?_
  refine Xk Y ?_ by7 by5
  simp_all;done
 intro c35 h35
 refine Qc ?_
 obtain ⟨rfl,g35⟩|⟨rfl,g35⟩:=Za h35
 ·refine QbT ?_
  obtain ⟨e1,e2,e3,e4⟩:=Classical.not_not.1 g35
  refine QbU ?_
  apply Zy (rg [(0,2),(4,68)]) (σ:=Nat) (fun zz=>match zz with|i=>[(5,.val (.int .i64 i))]) (fun zz=>match zz with|i=>i≤cs1.length∧Upto (cs1.map Cn.key) (cs2.map Cn.key) i) (fun zz=>match zz with|i=>cs1.length - i) (0)
  ·repeat' (first|exact Xp|apply Xn rfl|apply Xo rfl)
  ·exact ⟨by omega,Upto.zero _ _⟩
  ·exact by6
  rintro i hI
  try dsimp only [List.cons_append,List.nil_append] at hI ⊢
  obtain ⟨hi,hu⟩:=hI
  refine QO ?_
  refine Qbl ?_;intro n39
  refine Qk ?_;intro c40 h40
  refine Qa ?_
  obtain ⟨rfl,g40⟩|⟨rfl,g40⟩:=Za h40
  ·refine QaM ?_
   exact Zg Y Y (Xg _) by5 ⟨⟨_,iff_t ⟨e1,e2,hu.eq by15 by15,e3⟩,Y⟩,Y⟩
  refine Qx ?_
  obtain ⟨⟨xs,xts,xp⟩,hxx⟩:=Zo (l:=cs1) (i:=i) by9
  have hcx:=Cn.cellss_get hxx
  have hmx:=Xq hxx
  obtain ⟨⟨ys,yts,yp⟩,hxy⟩:=Zo (l:=cs2) (i:=i) by9
  have hcy:=Cn.cellss_get hxy
  have hmy:=Xq hxy
  refine c_boold 71 (¬ (xs=ys∧xts=yts)) tmix Y ?_ _ _ Y ?_
  ·skip
   refine Q9 ?_
   refine QeI ?_
   refine QbB ?_
   refine Q9 ?_
   refine QeI ?_
   refine QbB ?_
   refine Yp 55 Y Y (fun _ q=>op_sneq Y Y Y q) ?_;intro c55 h55
   refine QR ?_
   obtain ⟨rfl,g55⟩|⟨rfl,g55⟩:=Za h55
   ·skip
    refine Qcl ?_
    refine QeJ ?_
    refine Qbk ?_
    refine Qdv ?_
    refine Qcl ?_
    refine QeJ ?_
    refine Qbk ?_
    refine Qdv ?_
    refine DOps.gtc 69 Y Y Y Y (fun _ q=>Zl (xs:=[.tmp 62,.tmp 68]) Y Y (SameTypes_c xts yts) by3 q) ?_;intro c69 h69
    refine DOps.gtc 70 Y Y Y Y (fun _ q=>op_notc Y Y q) ?_;intro c70 h70
    try replace h70:=nott h70 h69
    refine QaK ?_
    show BoolQ _ _ _ _ _ _
    refine Xk Y ?_ by7 by5
    simp_all;done
   skip
   refine Qaf ?_
   refine Qaf ?_
   refine Qaf ?_
   refine QaJ ?_
   refine QaJ ?_
   refine QaK ?_
   show BoolQ _ _ _ _ _ _
   refine Xk Y ?_ by7 by5
   simp_all;done
  intro c71 h71
  refine Qc ?_
  obtain ⟨rfl,g71⟩|⟨rfl,g71⟩:=Za h71
  ·refine Q8 ?_
   exact ⟨i+1,⟨by omega,upto_map Cn.key hu hxx hxy (by simpa [Cn.key,Cn.s,Cn.ts] using Classical.not_not.1 g71)⟩,by simp;omega,by6,by5⟩
  refine Qr ?_
  exact Zg Y Y (Xg _) by5 ⟨⟨_,Yw (fun e=>map_ne Cn.key hxx hxy (fun q=>g71 (by simpa [Cn.key,Cn.s,Cn.ts] using q)) e.2.2.1),Y⟩,Y⟩
 refine Qr ?_
 exact Zg rfl rfl (Xg _) by5 ⟨⟨_,Yw (fun ⟨e1,e2,e3,e4⟩=>g35 ⟨e1,e2,e4,by simpa using congrArg List.length e3⟩),rfl⟩,rfl⟩
theorem rSameClass_c (a b:Cl):BCall Tryz.prog 27 [.agg a.cells,.agg b.cells] (a.key=b.key):=by
 obtain ⟨s1,v1,su1,ms1,ds1,p1⟩:=a
 obtain ⟨s2,v2,su2,ms2,ds2,p2⟩:=b
 have hk:((Cl.mk s1 v1 su1 ms1 ds1 p1).key=(Cl.mk s2 v2 su2 ms2 ds2 p2).key)=(s1=s2∧v1=v2∧su1=su2∧ms1.map Me.key=ms2.map Me.key∧ds1.map Bi.bare=ds2.map Bi.bare):=by simp only [Cl.key,Cl.s,Cl.v,Cl.su,Cl.ms,Cl.ds,Prod.mk.injEq]
 have hl1:=Me.cellss_len ms1
 have hl2:=Me.cellss_len ms2
 rw [hk]
 refine Zc Tryz.func27 Y (by kernel_rfl) Y (Xm Y) ?_
 refine Q5 ?_
 refine c_lena (t:=0) (j:=3) Y Y (.seq _ _) (fun hmax=>?_)
 refine Qo ?_
 refine Qb8 ?_
 refine Qb8 ?_
 refine Qba ?_
 refine Zx 34 (¬ (s1=s2∧v1=v2∧su1=su2∧ms1.length=ms2.length)) ?_ _ _ Y ?_
 ·skip
  refine QbC ?_
  refine QcI ?_;intro c10 h10
  refine Qb ?_
  obtain ⟨rfl,g10⟩|⟨rfl,g10⟩:=Za h10
  ·skip
   refine QbR ?_
   refine QcH ?_;intro c16 h16
   refine Qq ?_
   obtain ⟨rfl,g16⟩|⟨rfl,g16⟩:=Za h16
   ·skip
    refine QbR ?_
    refine Zm 23 Y Y Y Y Y (Zl (xs:=[.tmp 20,.tmp 22]) Y Y (Texts_c su1 su2) by3 ?_);intro c23 h23
    refine Qa5 ?_;intro c24 h24
    try replace h24:=nott h24 h23
    refine Qq ?_
    obtain ⟨rfl,g24⟩|⟨rfl,g24⟩:=Za h24
    ·skip
     refine QC ?_
     refine Zm 29 Y Y Y Y Y (Yk Y tu_75 Y (.seq _ _) (fun n29=>?_))
     refine QC ?_
     refine Zm 32 Y Y Y Y Y (Yk Y tu_75 Y (.seq _ _) (fun n32=>?_))
     refine QaD ?_;intro c33 h33
     refine Qg ?_
     refine Xk Y ?_ by7 by5
     simp_all;omega
    skip
    refine QbS ?_
    refine Qg ?_
    refine Xk Y ?_ by7 by5
    simp_all;done
   skip
   refine Qck ?_
   refine Qcj ?_
   refine Xk Y ?_ by7 by5
   simp_all;done
  skip
  refine Qa9 ?_
  refine Q1 ?_
  refine Qad ?_
  refine Qcj ?_
  refine Xk Y ?_ by7 by5
  simp_all;done
 intro c34 h34
 refine Qc ?_
 obtain ⟨rfl,g34⟩|⟨rfl,g34⟩:=Za h34
 ·refine QbT ?_
  obtain ⟨e1,e2,e3,e4⟩:=Classical.not_not.1 g34
  refine QbU ?_
  apply Zy (rg [(0,2),(4,67)]) (σ:=Nat) (fun zz=>match zz with|i=>[(5,.val (.int .i64 i))]) (fun zz=>match zz with|i=>i≤ms1.length∧Upto (ms1.map Me.key) (ms2.map Me.key) i) (fun zz=>match zz with|i=>ms1.length - i) (0)
  ·repeat' (first|exact Xp|apply Xn rfl|apply Xo rfl)
  ·exact ⟨by omega,Upto.zero _ _⟩
  ·exact by6
  rintro i hI
  try dsimp only [List.cons_append,List.nil_append] at hI ⊢
  obtain ⟨hi,hu⟩:=hI
  refine QO ?_
  refine Zb 38 Y Y Y (Yk Y tu_75 Y (.seq _ _) (fun n38=>?_))
  refine Qk ?_;intro c39 h39
  refine Qa ?_
  obtain ⟨rfl,g39⟩|⟨rfl,g39⟩:=Za h39
  ·refine QE ?_
   have hme:=hu.eq by15 by15
   refine Qi ?_
   refine QbC ?_
   refine Zb 75 Y Y Y (Zl (xs:=[.tmp 72,.tmp 74]) Y Y (SameBinds_c ds1 ds2) by3 ?_);intro c75 h75
   refine Qs ?_
   exact Zg Y Y (Xg _) by5 ⟨⟨_,h75.trans ⟨fun q=>⟨e1,e2,e3,hme,q⟩,fun q=>q.2.2.2.2⟩,Y⟩,Y⟩
  refine Qx ?_
  obtain ⟨⟨xs,⟨xtk,xts,xtn,xtl⟩,xp⟩,hxx⟩:=Zo (l:=ms1) (i:=i) by9
  have hcx:=Me.cellss_get hxx
  have hmx:=Xq hxx
  obtain ⟨⟨ys,⟨ytk,yts,ytn,ytl⟩,yp⟩,hxy⟩:=Zo (l:=ms2) (i:=i) by9
  have hcy:=Me.cellss_get hxy
  have hmy:=Xq hxy
  refine c_boold 70 (¬ (xs=ys∧(⟨xtk,xts,xtn,xtl⟩:Ty)=⟨ytk,yts,ytn,ytl⟩)) tmix Y ?_ _ _ Y ?_
  ·skip
   refine Q9 ?_
   refine QeK ?_
   refine QbB ?_
   refine Q9 ?_
   refine QeK ?_
   refine QbB ?_
   refine Yp 54 Y Y (fun _ q=>op_sneq Y Y Y q) ?_;intro c54 h54
   refine QR ?_
   obtain ⟨rfl,g54⟩|⟨rfl,g54⟩:=Za h54
   ·skip
    refine Qcl ?_
    refine QeL ?_
    refine Qbk ?_
    refine QdD ?_
    refine Qcl ?_
    refine QeL ?_
    refine Qbk ?_
    refine QdD ?_
    refine DOps.gtc 68 Y Y Y Y (fun _ q=>Zl (xs:=[.tmp 61,.tmp 67]) Y Y (SameType_c ⟨xtk,xts,xtn,xtl⟩ ⟨ytk,yts,ytn,ytl⟩) by3 q) ?_;intro c68 h68
    refine DOps.gtc 69 Y Y Y Y (fun _ q=>op_notc Y Y q) ?_;intro c69 h69
    try replace h69:=nott h69 h68
    refine QaK ?_
    show BoolQ _ _ _ _ _ _
    refine Xk Y ?_ by7 by5
    simp_all;done
   skip
   refine Qaf ?_
   refine Qaf ?_
   refine Qaf ?_
   refine QaJ ?_
   refine QaJ ?_
   refine QaK ?_
   show BoolQ _ _ _ _ _ _
   refine Xk Y ?_ by7 by5
   simp_all;done
  intro c70 h70
  refine Qc ?_
  obtain ⟨rfl,g70⟩|⟨rfl,g70⟩:=Za h70
  ·refine Q8 ?_
   exact ⟨i+1,⟨by omega,upto_map Me.key hu hxx hxy (by simpa [Me.key,Me.s,Me.t] using Classical.not_not.1 g70)⟩,by simp;omega,by6,by5⟩
  refine Qr ?_
  exact Zg Y Y (Xg _) by5 ⟨⟨_,Yw (fun e=>map_ne Me.key hxx hxy (fun q=>g70 (by simpa [Me.key,Me.s,Me.t] using q)) e.2.2.2.1),Y⟩,Y⟩
 refine Qr ?_
 exact Zg rfl rfl (Xg _) by5 ⟨⟨_,Yw (fun ⟨e1,e2,e3,e4,_⟩=>g34 ⟨e1,e2,e3,by simpa using congrArg List.length e4⟩),rfl⟩,rfl⟩
theorem rSameInst_c (a b:In):BCall Tryz.prog 28 [.agg a.cells,.agg b.cells] (a.key=b.key):=by
 obtain ⟨s1,⟨k1,t1,n1,l1⟩,cx1,bs1,p1⟩:=a
 obtain ⟨s2,⟨k2,t2,n2,l2⟩,cx2,bs2,p2⟩:=b
 have hk:((In.mk s1 ⟨k1,t1,n1,l1⟩ cx1 bs1 p1).key=(In.mk s2 ⟨k2,t2,n2,l2⟩ cx2 bs2 p2).key)=(s1=s2∧(⟨k1,t1,n1,l1⟩:Ty)=⟨k2,t2,n2,l2⟩∧cx1=cx2∧bs1.map Bi.bare=bs2.map Bi.bare):=by simp only [In.key,In.c,In.hd,In.cx,In.bs,Prod.mk.injEq]
 have hl1:=Pr.cellss_len cx1
 have hl2:=Pr.cellss_len cx2
 rw [hk]
 generalize hT:((⟨k1,t1,n1,l1⟩:Ty)=⟨k2,t2,n2,l2⟩)=T
 have HT:=SameType_c ⟨k1,t1,n1,l1⟩ ⟨k2,t2,n2,l2⟩
 rw [hT] at HT
 refine Zc Tryz.func28 Y (by kernel_rfl) Y (Xm Y) ?_
 refine Q5 ?_
 refine c_lena (t:=0) (j:=5) Y Y (.seq _ _) (fun hmax=>?_)
 refine Qo ?_
 refine QdE ?_
 refine QdE ?_
 refine Qba ?_
 refine Zx 27 (¬ (s1=s2∧T∧cx1.length=cx2.length)) ?_ _ _ Y ?_
 ·skip
  refine QbC ?_
  refine QcI ?_;intro c10 h10
  refine Qb ?_
  obtain ⟨rfl,g10⟩|⟨rfl,g10⟩:=Za h10
  ·skip
   refine QcZ ?_
   refine Qdx ?_
   refine QcZ ?_
   refine Qdx ?_
   refine Zm 16 Y Y Y Y Y (Zl (xs:=[.tmp 13,.tmp 15]) Y Y (HT) by3 ?_);intro c16 h16
   refine Qa5 ?_;intro c17 h17
   try replace h17:=nott h17 h16
   refine Qq ?_
   obtain ⟨rfl,g17⟩|⟨rfl,g17⟩:=Za h17
   ·skip
    refine QC ?_
    refine Zm 22 Y Y Y Y Y (Yk Y tu_47 Y (.seq _ _) (fun n22=>?_))
    refine QC ?_
    refine Zm 25 Y Y Y Y Y (Yk Y tu_47 Y (.seq _ _) (fun n25=>?_))
    refine QaD ?_;intro c26 h26
    refine Qg ?_
    refine Xk Y ?_ by7 by5
    simp_all;omega
   skip
   refine QbS ?_
   refine Qg ?_
   refine Xk Y ?_ by7 by5
   simp_all;done
  skip
  refine Qck ?_
  refine Qcj ?_
  refine Xk Y ?_ by7 by5
  simp_all;done
 intro c27 h27
 refine Qc ?_
 obtain ⟨rfl,g27⟩|⟨rfl,g27⟩:=Za h27
 ·refine QbT ?_
  obtain ⟨e1,e2,e4⟩:=Classical.not_not.1 g27
  refine QbU ?_
  apply Zy (rg [(0,2),(4,60)]) (σ:=Nat) (fun zz=>match zz with|i=>[(5,.val (.int .i64 i))]) (fun zz=>match zz with|i=>i≤cx1.length∧Upto cx1 cx2 i) (fun zz=>match zz with|i=>cx1.length - i) (0)
  ·repeat' (first|exact Xp|apply Xn rfl|apply Xo rfl)
  ·exact ⟨by omega,Upto.zero _ _⟩
  ·exact by6
  rintro i hI
  try dsimp only [List.cons_append,List.nil_append] at hI ⊢
  obtain ⟨hi,hu⟩:=hI
  refine QO ?_
  refine Zb 31 Y Y Y (Yk Y tu_47 Y (.seq _ _) (fun n31=>?_))
  refine Qk ?_;intro c32 h32
  refine Qa ?_
  obtain ⟨rfl,g32⟩|⟨rfl,g32⟩:=Za h32
  ·refine QE ?_
   have hme:=hu.eq by18 by18
   refine Qi ?_
   refine QbC ?_
   refine Zb 68 Y Y Y (Zl (xs:=[.tmp 65,.tmp 67]) Y Y (SameBinds_c bs1 bs2) by3 ?_);intro c68 h68
   refine Qs ?_
   exact Zg Y Y (Xg _) by5 ⟨⟨_,h68.trans ⟨fun q=>⟨e1,e2,hme,q⟩,fun q=>q.2.2.2⟩,Y⟩,Y⟩
  refine Qx ?_
  obtain ⟨⟨xc,⟨xtk,xts,xtn,xtl⟩⟩,hxx⟩:=Zo (l:=cx1) (i:=i) by9
  have hcx:=Pr.cellss_get hxx
  have hmx:=Xq hxx
  obtain ⟨⟨yc,⟨ytk,yts,ytn,ytl⟩⟩,hxy⟩:=Zo (l:=cx2) (i:=i) by9
  have hcy:=Pr.cellss_get hxy
  have hmy:=Xq hxy
  refine c_boold 63 (¬ (xc=yc∧(⟨xtk,xts,xtn,xtl⟩:Ty)=⟨ytk,yts,ytn,ytl⟩)) tmix Y ?_ _ _ Y ?_
  ·skip
   refine Q9 ?_
   refine QeM ?_
   refine QbB ?_
   refine Q9 ?_
   refine QeM ?_
   refine QbB ?_
   refine Yp 47 Y Y (fun _ q=>op_sneq Y Y Y q) ?_;intro c47 h47
   refine QR ?_
   obtain ⟨rfl,g47⟩|⟨rfl,g47⟩:=Za h47
   ·skip
    refine Qcl ?_
    refine QeN ?_
    refine Qbk ?_
    refine QdD ?_
    refine Qcl ?_
    refine QeN ?_
    refine Qbk ?_
    refine QdD ?_
    refine DOps.gtc 61 Y Y Y Y (fun _ q=>Zl (xs:=[.tmp 54,.tmp 60]) Y Y (SameType_c ⟨xtk,xts,xtn,xtl⟩ ⟨ytk,yts,ytn,ytl⟩) by3 q) ?_;intro c61 h61
    refine DOps.gtc 62 Y Y Y Y (fun _ q=>op_notc Y Y q) ?_;intro c62 h62
    try replace h62:=nott h62 h61
    refine QaK ?_
    show BoolQ _ _ _ _ _ _
    refine Xk Y ?_ by7 by5
    simp_all;done
   skip
   refine Qaf ?_
   refine Qaf ?_
   refine Qaf ?_
   refine QaJ ?_
   refine QaJ ?_
   refine QaK ?_
   show BoolQ _ _ _ _ _ _
   refine Xk Y ?_ by7 by5
   simp_all;done
  intro c63 h63
  refine Qc ?_
  obtain ⟨rfl,g63⟩|⟨rfl,g63⟩:=Za h63
  ·refine Q8 ?_
   exact ⟨i+1,⟨by omega,hu.succ hxx hxy (by simpa using Classical.not_not.1 g63)⟩,by simp;omega,by6,by5⟩
  refine Qr ?_
  exact Zg rfl rfl (Xg _) by5 ⟨⟨_,Yw (fun e=>g63 (by have:=e.2.2.1;subst this;rw [hxx] at hxy;simpa using Option.some.inj hxy)),rfl⟩,rfl⟩
 refine Qr ?_
 exact Zg rfl rfl (Xg _) by5 ⟨⟨_,Yw (fun ⟨e1,e2,e3,_⟩=>g27 ⟨e1,e2,by rw [e3]⟩),rfl⟩,rfl⟩
theorem rSameProg_c (a b:Pg):BCall Tryz.prog 9 [.agg a.cells,.agg b.cells] (a.key=b.key):=by
 obtain ⟨da1,cl1,in1,bs1⟩:=a
 obtain ⟨da2,cl2,in2,bs2⟩:=b
 have hk:((Pg.mk da1 cl1 in1 bs1).key=(Pg.mk da2 cl2 in2 bs2).key)=(da1.map Da.key=da2.map Da.key∧cl1.map Cl.key=cl2.map Cl.key∧in1.map In.key=in2.map In.key∧bs1.map Bi.bare=bs2.map Bi.bare):=by simp only [Pg.key,Pg.da,Pg.cl,Pg.ins,Pg.bs,Prod.mk.injEq]
 have hl1:=Da.cellss_len da1
 have hl2:=Da.cellss_len da2
 have hl3:=Cl.cellss_len cl1
 have hl4:=Cl.cellss_len cl2
 have hl5:=In.cellss_len in1
 have hl6:=In.cellss_len in2
 rw [hk]
 refine Zc Tryz.func9 Y (by kernel_rfl) Y (Xm Y) ?_
 refine Q5 ?_
 refine c_lena (t:=0) (j:=0) Y Y (.seq _ _) (fun hmax=>?_)
 refine c_lena (t:=0) (j:=1) Y Y (.seq _ _) (fun hmax2=>?_)
 refine c_lena (t:=0) (j:=2) Y Y (.seq _ _) (fun hmax3=>?_)
 refine Qo ?_
 refine Qc3 ?_
 refine Qc3 ?_
 refine Qba ?_
 refine Zx 32 (¬ (da1.length=da2.length∧cl1.length=cl2.length∧in1.length=in2.length)) ?_ _ _ Y ?_
 ·skip
  refine Qy ?_
  refine QcR ?_;intro n10
  refine Qy ?_
  refine QcR ?_;intro n13
  refine Qao ?_;intro c14 h14
  refine Qb ?_
  obtain ⟨rfl,g14⟩|⟨rfl,g14⟩:=Za h14
  ·skip
   refine QC ?_
   refine Zm 18 Y Y Y Y Y (Yk Y tu_24 Y (.seq _ _) (fun n18=>?_))
   refine QC ?_
   refine Zm 21 Y Y Y Y Y (Yk Y tu_24 Y (.seq _ _) (fun n21=>?_))
   refine QaD ?_;intro c22 h22
   refine Qq ?_
   obtain ⟨rfl,g22⟩|⟨rfl,g22⟩:=Za h22
   ·skip
    refine QC ?_
    refine Zm 27 Y Y Y Y Y (Yk Y tu_25 Y (.seq _ _) (fun n27=>?_))
    refine QC ?_
    refine Zm 30 Y Y Y Y Y (Yk Y tu_25 Y (.seq _ _) (fun n30=>?_))
    refine QaD ?_;intro c31 h31
    refine Qg ?_
    refine Xk Y ?_ by7 by5
    simp_all;omega
   skip
   refine QbS ?_
   refine Qg ?_
   refine Xk Y ?_ by7 by5
   simp_all;omega
  skip
  refine QbS ?_
  refine Qcj ?_
  refine Xk Y ?_ by7 by5
  simp_all;omega
 intro c32 h32
 refine Qc ?_
 obtain ⟨rfl,g32⟩|⟨rfl,g32⟩:=Za h32
 ·refine QbT ?_
  obtain ⟨e1,e2,e3⟩:=Classical.not_not.1 g32
  refine QbU ?_
  apply Zy (rg [(0,2),(4,2),(8,44)]) (σ:=Nat) (fun zz=>match zz with|i=>[(5,.val (.int .i64 i))]) (fun zz=>match zz with|i=>i≤da1.length∧Upto (da1.map Da.key) (da2.map Da.key) i) (fun zz=>match zz with|i=>da1.length - i) (0)
  ·repeat' (first|exact Xp|apply Xn rfl|apply Xo rfl)
  ·exact ⟨by omega,Upto.zero _ _⟩
  ·exact by6
  rintro i hI
  try dsimp only [List.cons_append,List.nil_append] at hI ⊢
  obtain ⟨hi,hu⟩:=hI
  refine QO ?_
  refine QcR ?_;intro n36
  refine Qk ?_;intro c37 h37
  refine Qa ?_
  obtain ⟨rfl,g37⟩|⟨rfl,g37⟩:=Za h37
  ·refine Qbp ?_
   have hda:=hu.eq by15 by15
   refine QbU ?_
   apply Zy (rg [(0,2),(4,3),(8,63)]) (σ:=Nat) (fun zz=>match zz with|i=>[(6,.val (.int .i64 i))]) (fun zz=>match zz with|i=>i≤cl1.length∧Upto (cl1.map Cl.key) (cl2.map Cl.key) i) (fun zz=>match zz with|i=>cl1.length - i) (0)
   ·repeat' (first|exact Xp|apply Xn rfl|apply Xo rfl)
   ·exact ⟨by omega,Upto.zero _ _⟩
   ·exact by6
   rintro i hI
   try dsimp only [List.cons_append,List.nil_append] at hI ⊢
   obtain ⟨hi,hu⟩:=hI
   refine QO ?_
   refine Zb 55 Y Y Y (Yk Y tu_24 Y (.seq _ _) (fun n55=>?_))
   refine Qk ?_;intro c56 h56
   refine Qa ?_
   obtain ⟨rfl,g56⟩|⟨rfl,g56⟩:=Za h56
   ·refine Qbp ?_
    have hcl:=hu.eq by15 by15
    refine QbU ?_
    apply Zy (rg [(0,2),(4,86)]) (σ:=Nat) (fun zz=>match zz with|i=>[(7,.val (.int .i64 i))]) (fun zz=>match zz with|i=>i≤in1.length∧Upto (in1.map In.key) (in2.map In.key) i) (fun zz=>match zz with|i=>in1.length - i) (0)
    ·repeat' (first|exact Xp|apply Xn rfl|apply Xo rfl)
    ·exact ⟨by omega,Upto.zero _ _⟩
    ·exact by6
    rintro i hI
    try dsimp only [List.cons_append,List.nil_append] at hI ⊢
    obtain ⟨hi,hu⟩:=hI
    refine QO ?_
    refine Zb 74 Y Y Y (Yk Y tu_25 Y (.seq _ _) (fun n74=>?_))
    refine Qk ?_;intro c75 h75
    refine Qa ?_
    obtain ⟨rfl,g75⟩|⟨rfl,g75⟩:=Za h75
    ·refine QE ?_
     have hin:=hu.eq by15 by15
     refine Qi ?_
     refine QbC ?_
     refine Zb 94 Y Y Y (Zl (xs:=[.tmp 91,.tmp 93]) Y Y (SameBinds_c bs1 bs2) by3 ?_);intro c94 h94
     refine Qs ?_
     exact Zg Y Y (Xg _) by5 ⟨⟨_,h94.trans ⟨fun q=>⟨hda,hcl,hin,q⟩,fun q=>q.2.2.2⟩,Y⟩,Y⟩
    refine Qx ?_
    obtain ⟨⟨xc,⟨xhdk,xhds,xhdn,xhdl⟩,xcx,xbs,xp⟩,hxx⟩:=Zo (l:=in1) (i:=i) by9
    have hcx:=In.cellss_get hxx
    have hmx:=Xq hxx
    obtain ⟨⟨yc,⟨yhdk,yhds,yhdn,yhdl⟩,ycx,ybs,yp⟩,hxy⟩:=Zo (l:=in2) (i:=i) by9
    have hcy:=In.cellss_get hxy
    have hmy:=Xq hxy
    refine Qb5 ?_
    refine Q9 ?_
    refine QeO ?_
    refine QeP ?_
    refine Q9 ?_
    refine QeO ?_
    refine QeP ?_
    refine Yp 88 Y Y (fun _ q=>Zl (xs:=[.tmp 82,.tmp 87]) Y Y (rSameInst_c ⟨xc,⟨xhdk,xhds,xhdn,xhdl⟩,xcx,xbs,xp⟩ ⟨yc,⟨yhdk,yhds,yhdn,yhdl⟩,ycx,ybs,yp⟩) by3 q) ?_;intro c88 h88
    refine Yp 89 Y Y (fun _ q=>op_notc Y Y q) ?_;intro c89 h89
    try replace h89:=nott h89 h88
    show AGo _ _ _ _ _ _ _
    refine Qc ?_
    obtain ⟨rfl,g89⟩|⟨rfl,g89⟩:=Za h89
    ·refine Q8 ?_
     exact ⟨i+1,⟨by omega,upto_map In.key hu hxx hxy (Classical.not_not.1 g89)⟩,by simp;omega,by6,by5⟩
    refine Qr ?_
    exact Zg Y Y (Xg _) by5 ⟨⟨_,Yw (fun e=>map_ne In.key hxx hxy g89 e.2.2.1),Y⟩,Y⟩
   refine Qx ?_
   obtain ⟨⟨xs,xv,xsu,xms,xds,xp⟩,hxx⟩:=Zo (l:=cl1) (i:=i) by9
   have hcx:=Cl.cellss_get hxx
   have hmx:=Xq hxx
   obtain ⟨⟨ys,yv,ysu,yms,yds,yp⟩,hxy⟩:=Zo (l:=cl2) (i:=i) by9
   have hcy:=Cl.cellss_get hxy
   have hmy:=Xq hxy
   refine Qb5 ?_
   refine Q9 ?_
   refine QeR ?_
   refine QeS ?_
   refine Q9 ?_
   refine QeR ?_
   refine QeS ?_
   refine Yp 69 Y Y (fun _ q=>Zl (xs:=[.tmp 63,.tmp 68]) Y Y (rSameClass_c ⟨xs,xv,xsu,xms,xds,xp⟩ ⟨ys,yv,ysu,yms,yds,yp⟩) by3 q) ?_;intro c69 h69
   refine Yp 70 Y Y (fun _ q=>op_notc Y Y q) ?_;intro c70 h70
   try replace h70:=nott h70 h69
   show AGo _ _ _ _ _ _ _
   refine Qc ?_
   obtain ⟨rfl,g70⟩|⟨rfl,g70⟩:=Za h70
   ·refine Q8 ?_
    exact ⟨i+1,⟨by omega,upto_map Cl.key hu hxx hxy (Classical.not_not.1 g70)⟩,by simp;omega,by6,by5⟩
   refine Qr ?_
   exact Zg Y Y (Xg _) by5 ⟨⟨_,Yw (fun e=>map_ne Cl.key hxx hxy g70 e.2.1),Y⟩,Y⟩
  refine Qx ?_
  obtain ⟨⟨xs,xps,xcs,xdv,xp⟩,hxx⟩:=Zo (l:=da1) (i:=i) by9
  have hcx:=Da.cellss_get hxx
  have hmx:=Xq hxx
  obtain ⟨⟨ys,yps,ycs,ydv,yp⟩,hxy⟩:=Zo (l:=da2) (i:=i) by9
  have hcy:=Da.cellss_get hxy
  have hmy:=Xq hxy
  refine Qb5 ?_
  refine Q9 ?_
  refine QeT ?_
  refine QeU ?_
  refine Q9 ?_
  refine QeT ?_
  refine QeU ?_
  refine Yp 50 Y Y (fun _ q=>Zl (xs:=[.tmp 44,.tmp 49]) Y Y (rSameData_c ⟨xs,xps,xcs,xdv,xp⟩ ⟨ys,yps,ycs,ydv,yp⟩) by3 q) ?_;intro c50 h50
  refine Yp 51 Y Y (fun _ q=>op_notc Y Y q) ?_;intro c51 h51
  try replace h51:=nott h51 h50
  show AGo _ _ _ _ _ _ _
  refine Qc ?_
  obtain ⟨rfl,g51⟩|⟨rfl,g51⟩:=Za h51
  ·refine Q8 ?_
   exact ⟨i+1,⟨by omega,upto_map Da.key hu hxx hxy (Classical.not_not.1 g51)⟩,by simp;omega,by6,by5⟩
  refine Qr ?_
  exact Zg Y Y (Xg _) by5 ⟨⟨_,Yw (fun e=>map_ne Da.key hxx hxy g51 e.1),Y⟩,Y⟩
 refine Qr ?_
 exact Zg rfl rfl (Xg _) by5 ⟨⟨_,Yw (fun ⟨e1,e2,e3,_⟩=>g32 ⟨by simpa using congrArg List.length e1,by simpa using congrArg List.length e2,by simpa using congrArg List.length e3⟩),rfl⟩,rfl⟩
section
variable {P:Program} {n:Nat} {al:Sl} {M:Mem} {o:Oper} {K:AV→Mem→Prop}
def bts (xs:List Int):List (List AV):=xs.map fun b=>[.val (.int .u8 b)]
theorem bts_flat (xs:List Int):(bts xs).flatten=xs.map fun b=>AV.val (.int .u8 b):=by
 induction xs with
 | nil=>rfl
 | cons x xs ih=>unfold bts at *;rw [List.map_cons,List.flatten_cons,ih];rfl
theorem rels_vals {F:EH}:∀ {vs us:List Value},Rels F (vs.map AV.val) us→us=vs
 | [],us,h=>by cases h;rfl
 | v::vs,us,h=>by
  cases h with
  | cons h hs=>cases h;rw [rels_vals hs]
theorem op_bytestr {x:Operand} {t t' e:TypeId} {v:AV} {xs:List Int} (ho:o.op=.convert t t' x) (ht:P.underlying t=some (.slice e)) (he:P.underlying e=some (.int .u8)) (ht':P.underlying t'=some .string) (hx:al.ev x=some v) (hv:IsSeq v 1 (bts xs)) (h0:xs≠[]) (q:K (.val (.string (strOfNums xs))) M):OpT P o al M K :=
 OpT.plain fun n B F Mf ac w hi hs=>by
  have h:=hv.rel (hs.ev hx)
  generalize hu:ac.eval x=u at h
  generalize hes:bts xs=es at h
  cases h with
  | seq0 _ ao cap _=>exact absurd (by simpa [bts] using hes) h0
  | seq b off cap hm hn hl h h1 hcq =>
   subst hes
   rw [bts_flat,show (xs.map fun b=>AV.val (.int .u8 b))=(xs.map (Value.int .u8)).map AV.val from by simp] at h
   have:=rels_vals h
   subst this
   have hlen:(bts xs).length=xs.length:=by simp [bts]
   refine ⟨_,_,?_,q,.val _⟩
   have:=run_convert_bytes_arg (P:=P) w t e ht he b off xs.length cap xs rfl (fun i hi'=>hi.fix _ _ _ (hl i _ (by simp [hi']))) t' ht'
   simp [execOp,ho,hu,hlen,this]
end
section
variable {P:Program} {al:Sl} {M:Mem} {K:AV→Mem→Prop} {o:Oper}
theorem op_bytestr0 {x:Operand} {t t' e:TypeId} {v:AV} (ho:o.op=.convert t t' x) (ht:P.underlying t=some (.slice e)) (he:P.underlying e=some (.int .u8)) (ht':P.underlying t'=some .string) (hx:al.ev x=some v) (hv:IsSeq v 1 []) (q:K (.val (.string ⟨#[]⟩)) M):OpT P o al M K :=
 OpT.plain fun n B F Mf ac w hi hs=>by
  have h:=hv.rel (hs.ev hx)
  generalize hu:ac.eval x=u at h
  have key:∃ ao cap,u=.slice ao 0 cap:=by
   obtain ⟨ao,cap,h⟩:=h.seq_len
   exact ⟨ao,cap,h⟩
  obtain ⟨ao,cap,rfl⟩:=key
  refine ⟨_,_,?_,q,.val _⟩
  have hr:(convert t t' (.slice ao 0 cap)).run P w=.ok (.string ⟨#[]⟩) w:=by
   rw [run_convert_bytes_string w t t' e _ 0 cap ht he ht']
   cases ao <;> simp [Conv.bytesToString,loadCells,loadCellsFrom,ByteArray.empty,ByteArray.emptyWithCapacity] <;> rfl
  simp [execOp,ho,hu,hr]
theorem op_bytestra {x:Operand} {t t' e:TypeId} {v:AV} {xs:List Int} (ho:o.op=.convert t t' x) (ht:P.underlying t=some (.slice e)) (he:P.underlying e=some (.int .u8)) (ht':P.underlying t'=some .string) (hx:al.ev x=some v) (hv:IsSeq v 1 (bts xs)) (q:K (.val (.string (strOfNums xs))) M):OpT P o al M K:=by
 by_cases h0:xs=[]
 ·subst h0
  exact op_bytestr0 ho ht he ht' hx hv q
 exact op_bytestr ho ht he ht' hx hv h0 q
end
theorem Le.inteq {k:IntKind} {a b:Int} (h:a=b):Le (.val (.int k a)) (.val (.int k b)):=by rw [h];exact Xg _
theorem smallC_iff (c:Nat):smallC c=true↔((97≤c∧c≤122)∨c=95):=by simp [smallC]
theorem greatC_iff (c:Nat):greatC c=true↔(65≤c∧c≤90):=by simp [greatC]
theorem digitC_iff (c:Nat):digitC c=true↔(48≤c∧c≤57):=by simp [digitC]
theorem blankC_iff (c:Nat):blankC c=true↔(c=32∨c=9∨c=10∨c=13):=by simp [blankC,or_assoc]
theorem nameC_iff (c:Nat):nameC c=true↔(smallC c=true∨greatC c=true∨digitC c=true∨c=39):=by simp [nameC,or_assoc]
theorem small_c (c:Nat):BCall Tryz.prog 77 [.val (.int .u8 c)] (smallC c=true):=by
 refine Zc Tryz.func77 Y (by kernel_rfl) Y (Xm Y) ?_
 refine Qbc ?_
 refine Zx 2 ((97≤c∧c≤122)∨c=95) ?_ _ _ Y ?_
 ·skip
  refine Qco ?_;intro c4 h4
  refine Qb ?_
  obtain ⟨rfl,g4⟩|⟨rfl,g4⟩:=Za h4
  ·skip
   refine Qbd ?_
   refine QU ?_;intro c11 h11
   refine QM ?_
   refine Xk Y ?_ by7 by5
   simp_all;omega
  skip
  refine Qd ?_
  refine Qc4 ?_;intro c7 h7
  refine Qq ?_
  obtain ⟨rfl,g7⟩|⟨rfl,g7⟩:=Za h7
  ·skip
   refine QU ?_;intro c11 h11
   refine QM ?_
   refine Xk Y ?_ by7 by5
   simp_all;omega
  skip
  refine Qaa ?_
  refine Xk Y ?_ by7 by5
  simp_all;omega
 intro c2 h2
 refine QX ?_
 exact Zg Y Y (Xg _) by5 ⟨⟨_,h2.trans (smallC_iff c).symm,Y⟩,Y⟩
theorem great_c (c:Nat):BCall Tryz.prog 75 [.val (.int .u8 c)] (greatC c=true):=by
 refine Zc Tryz.func75 Y (by kernel_rfl) Y (Xm Y) ?_
 refine Qbc ?_
 refine Zx 2 (65≤c∧c≤90) ?_ _ _ Y ?_
 ·skip
  refine Qco ?_;intro c4 h4
  refine Qb ?_
  obtain ⟨rfl,g4⟩|⟨rfl,g4⟩:=Za h4
  ·skip
   refine Qaa ?_
   refine Xk Y ?_ by7 by5
   simp_all;omega
  skip
  refine Qd ?_
  refine Qc4 ?_;intro c7 h7
  refine QM ?_
  refine Xk Y ?_ by7 by5
  simp_all;omega
 intro c2 h2
 refine QX ?_
 exact Zg Y Y (Xg _) by5 ⟨⟨_,h2.trans (greatC_iff c).symm,Y⟩,Y⟩
theorem digit_c (c:Nat):BCall Tryz.prog 89 [.val (.int .u8 c)] (digitC c=true):=by
 refine Zc Tryz.func89 Y (by kernel_rfl) Y (Xm Y) ?_
 refine Qbc ?_
 refine Zx 2 (48≤c∧c≤57) ?_ _ _ Y ?_
 ·skip
  refine Qco ?_;intro c4 h4
  refine Qb ?_
  obtain ⟨rfl,g4⟩|⟨rfl,g4⟩:=Za h4
  ·skip
   refine Qaa ?_
   refine Xk Y ?_ by7 by5
   simp_all;omega
  skip
  refine Qd ?_
  refine Qc4 ?_;intro c7 h7
  refine QM ?_
  refine Xk Y ?_ by7 by5
  simp_all;omega
 intro c2 h2
 refine QX ?_
 exact Zg Y Y (Xg _) by5 ⟨⟨_,h2.trans (digitC_iff c).symm,Y⟩,Y⟩
theorem blank_c (c:Nat):BCall Tryz.prog 87 [.val (.int .u8 c)] (blankC c=true):=by
 refine Zc Tryz.func87 Y (by kernel_rfl) Y (Xm Y) ?_
 refine Qbc ?_
 refine Zx 2 (c=32∨c=9∨c=10∨c=13) ?_ _ _ Y ?_
 ·skip
  refine QbV ?_;intro c4 h4
  refine Qb ?_
  obtain ⟨rfl,g4⟩|⟨rfl,g4⟩:=Za h4
  ·skip
   refine QU ?_;intro c7 h7
   refine Qq ?_
   obtain ⟨rfl,g7⟩|⟨rfl,g7⟩:=Za h7
   ·skip
    refine QU ?_;intro c11 h11
    refine Qq ?_
    obtain ⟨rfl,g11⟩|⟨rfl,g11⟩:=Za h11
    ·skip
     refine QU ?_;intro c15 h15
     refine QM ?_
     refine Xk Y ?_ by7 by5
     simp_all;omega
    skip
    refine Qaa ?_
    refine Xk Y ?_ by7 by5
    simp_all;omega
   skip
   refine Qbd ?_
   refine Qaa ?_
   refine Xk Y ?_ by7 by5
   simp_all;omega
  skip
  refine Qbd ?_
  refine Qbd ?_
  refine Qaa ?_
  refine Xk Y ?_ by7 by5
  simp_all;omega
 intro c2 h2
 refine QX ?_
 exact Zg Y Y (Xg _) by5 ⟨⟨_,h2.trans (blankC_iff c).symm,Y⟩,Y⟩
theorem in_c (s:ByteArray) (hs:s.size≤60000) (c:Nat):BCall Tryz.prog 104 [.val (.string s),.val (.int .u8 c)] (c∈bytesN s):=by
 refine Zc Tryz.func104 Y (by kernel_rfl) Y (Xm Y) ?_
 refine Qbc ?_
 refine Q3 ?_
 refine c_loop (σ:=Nat) (fun zz=>match zz with|i=>[(0,.val (.string s)),(1,.val (.int .u8 c)),(5,.val (.int .i64 i))]) (fun zz=>match zz with|i=>[]) (fun zz=>match zz with|i=>i≤s.size∧(c∈bytesN s↔c∈rst s i)) (fun zz=>match zz with|i=>s.size - i) (0) ?_ ?_ ?_ ?_
 ·exact ⟨Nat.zero_le _,Iff.rfl⟩
 ·exact by6
 ·exact by5
 rintro i hI
 try dsimp only [List.cons_append,List.nil_append] at hI ⊢
 obtain ⟨hi,hu⟩:=hI
 refine Qal ?_
 refine QbW ?_;intro c9 h9
 refine Qa ?_
 obtain ⟨rfl,g9⟩|⟨rfl,g9⟩:=Za h9
 ·refine QaM ?_
  exact Zg Y Y (Xg _) by5 ⟨⟨_,Yw (fun q=>by have:=hu.1 q;rw [rst_nil by18] at this;cases this),Y⟩,Y⟩
 refine Qx ?_
 obtain ⟨b,hb,hr,hlt⟩:=Yu (s:=s) (i:=i) by18
 refine QF ?_
 refine QcS ?_
 refine QbV ?_;intro c16 h16
 refine Qa ?_
 obtain ⟨rfl,g16⟩|⟨rfl,g16⟩:=Za h16
 ·refine Q8 ?_
  exact ⟨i+1,⟨by omega,hu.trans (by rw [hr];simp;omega)⟩,by simp;omega,by6,by5⟩
 refine Qr ?_
 exact Zg Y Y (Xg _) by5 ⟨⟨_,iff_t (hu.2 (by rw [hr];simp;omega)),Y⟩,Y⟩
theorem signBytes:bytesN ⟨#[33,36,37,38,42,43,46,47,60,61,62,63,64,94,124,126,58,45]⟩=signL:=by decide
theorem sign_c (c:Nat):BCall Tryz.prog 92 [.val (.int .u8 c)] (signC c=true):=by
 have H:=in_c ⟨#[33,36,37,38,42,43,46,47,60,61,62,63,64,94,124,126,58,45]⟩ by17 c
 rw [signBytes] at H
 have hC:c∈signL↔signC c=true:=by unfold signC;exact (List.contains_iff_mem).symm
 refine Zc Tryz.func92 Y (by kernel_rfl) Y (Xm Y) ?_
 refine Qcp ?_
 refine Zb 4 Y Y Y (Zl (xs:=[.const (.string ⟨#[33,36,37,38,42,43,46,47,60,61,62,63,64,94,124,126,58,45]⟩),.tmp 3]) Y Y (H) by3 ?_);intro c4 h4
 refine Qs ?_
 exact Zg Y Y (Xg _) by5 ⟨⟨_,h4.trans hC,Y⟩,Y⟩
theorem name_c (c:Nat):BCall Tryz.prog 98 [.val (.int .u8 c)] (nameC c=true):=by
 have H1:=small_c c
 have H2:=great_c c
 have H3:=digit_c c
 have hN:=nameC_iff c
 refine Zc Tryz.func98 Y (by kernel_rfl) Y (Xm Y) ?_
 refine Qbc ?_
 refine Zx 2 (smallC c=true∨greatC c=true∨digitC c=true∨c=39) ?_ _ _ Y ?_
 ·skip
  refine Qb ?_
  refine Zb 4 Y Y Y (Zl (xs:=[.tmp 3]) Y Y (H1) by3 ?_);intro c4 h4
  refine Qb ?_
  obtain ⟨rfl,g4⟩|⟨rfl,g4⟩:=Za h4
  ·skip
   refine Qd ?_
   refine Zm 7 Y Y Y Y Y (Zl (xs:=[.tmp 6]) Y Y (H2) by3 ?_);intro c7 h7
   refine Qq ?_
   obtain ⟨rfl,g7⟩|⟨rfl,g7⟩:=Za h7
   ·skip
    refine Qd ?_
    refine Zm 11 Y Y Y Y Y (Zl (xs:=[.tmp 10]) Y Y (H3) by3 ?_);intro c11 h11
    refine Qq ?_
    obtain ⟨rfl,g11⟩|⟨rfl,g11⟩:=Za h11
    ·skip
     refine QU ?_;intro c15 h15
     refine QM ?_
     refine Xk Y ?_ by7 by5
     simp_all;omega
    skip
    refine Qaa ?_
    refine Xk Y ?_ by7 by5
    simp_all;done
   skip
   refine Qbd ?_
   refine Qaa ?_
   refine Xk Y ?_ by7 by5
   simp_all;done
  skip
  refine Qbd ?_
  refine Qbd ?_
  refine Qaa ?_
  refine Xk Y ?_ by7 by5
  simp_all;done
 intro c2 h2
 refine QX ?_
 exact Zg Y Y (Xg _) by5 ⟨⟨_,h2.trans hN.symm,Y⟩,Y⟩
theorem byteAt_ (s:ByteArray) (i:Nat):∃ b:UInt8,i<s.size→s[i]?=some b∧rst s i=b.toNat::rst s (i+1)∧b.toNat<256:=by
 by_cases q:i<s.size
 ·obtain ⟨b,h⟩:=Yu q
  exact ⟨b,fun _=>h⟩
 exact ⟨0,fun h=>absurd h q⟩
theorem kindC_iff (k c:Nat) (h1:1≤k) (h3:k≤3):kindC k c=true↔((k=1∧nameC c=true)∨(k=2∧digitC c=true)∨(k=3∧signC c=true)):=by
 unfold kindC
 by_cases q1:k=1
 ·subst q1;simp
 rw [if_neg q1]
 by_cases q2:k=2
 ·subst q2;simp
 rw [if_neg q2]
 have q3:k=3:=by omega
 subst q3;simp
theorem end_c (s:ByteArray) (hs:s.size≤60000) (at_ k:Nat) (ha:at_≤s.size) (k1:1≤k) (k3:k≤3):PCall Tryz.prog 90 [.val (.string s),.val (.int .i64 at_),.val (.int .i64 k)] (.val (.int .i64 ((at_+run k (rst s at_):Nat):Int))):=by
 have HN:=name_c
 have HD:=digit_c
 have HS:=sign_c
 refine Zc Tryz.func90 Y (by kernel_rfl) Y (Xm Y) ?_
 refine Qa7 ?_
 refine Qa6 ?_
 refine c_loop (σ:=Nat) (fun zz=>match zz with|i=>[(0,.val (.string s)),(1,.val (.int .i64 i)),(2,.val (.int .i64 k))]) (fun zz=>match zz with|i=>[]) (fun zz=>match zz with|i=>i≤s.size∧i+run k (rst s i)=at_+run k (rst s at_)) (fun zz=>match zz with|i=>s.size - i) (at_) ?_ ?_ ?_ ?_
 ·exact ⟨ha,Y⟩
 ·exact by6
 ·exact by5
 rintro i hI
 try dsimp only [List.cons_append,List.nil_append] at hI ⊢
 obtain ⟨hi,hu⟩:=hI
 refine QL ?_
 obtain ⟨b,hb⟩:=byteAt_ s i
 have hK:=kindC_iff k b.toNat k1 k3
 refine Zx 40 (i<s.size∧kindC k b.toNat=true) ?_ _ _ Y ?_
 ·skip
  refine QaA ?_
  refine QbW ?_;intro c10 h10
  refine Qb ?_
  obtain ⟨rfl,g10⟩|⟨rfl,g10⟩:=Za h10
  ·skip
   refine Qcq ?_
   refine Qad ?_
   refine Qa8 ?_
   refine Qa8 ?_
   refine Qad ?_
   refine Qa8 ?_
   refine Qa8 ?_
   refine QZ ?_
   refine Qg ?_
   refine Xk Y ?_ by7 by5
   clear HN HD HS hu hb;first|(simp_all;done)|grind
  skip
  refine QU ?_;intro c13 h13
  refine Qd ?_
  obtain ⟨rfl,g13⟩|⟨rfl,g13⟩:=Za h13
  ·skip
   refine Qm ?_
   refine QV ?_
   refine Qd ?_
   refine QU ?_;intro c22 h22
   refine Qd ?_
   obtain ⟨rfl,g22⟩|⟨rfl,g22⟩:=Za h22
   ·skip
    refine Qm ?_
    refine QV ?_
    refine QV ?_
    refine Qd ?_
    refine QU ?_;intro c32 h32
    refine Qd ?_
    obtain ⟨rfl,g32⟩|⟨rfl,g32⟩:=Za h32
    ·skip
     refine Qm ?_
     refine Qbe ?_
     refine Xk Y ?_ by7 by5
     clear HN HD HS hu hb;first|(simp_all;done)|grind
    skip
    refine Qcr ?_
    refine Zm 37 Y Y Y Y Y (Zl (xs:=[.tmp 36]) Y Y (HS _) by3 ?_);intro c37 h37
    refine Qbe ?_
    refine Xk Y ?_ by7 by5
    clear HN HD HS hu hb;first|(simp_all;done)|grind
   skip
   refine Qcr ?_
   refine Zm 27 Y Y Y Y Y (Zl (xs:=[.tmp 26]) Y Y (HD _) by3 ?_);intro c27 h27
   refine QV ?_
   refine QV ?_
   refine Qd ?_
   obtain ⟨rfl,g27⟩|⟨rfl,g27⟩:=Za h27
   ·skip
    refine QU ?_;intro c32 h32
    refine Qd ?_
    obtain ⟨rfl,g32⟩|⟨rfl,g32⟩:=Za h32
    ·skip
     refine Qm ?_
     refine Qbe ?_
     refine Xk Y ?_ by7 by5
     clear HN HD HS hu hb;first|(simp_all;done)|grind
    skip
    refine Qcr ?_
    refine Zm 37 Y Y Y Y Y (Zl (xs:=[.tmp 36]) Y Y (HS _) by3 ?_);intro c37 h37
    refine Qbe ?_
    refine Xk Y ?_ by7 by5
    clear HN HD HS hu hb;first|(simp_all;done)|grind
   skip
   refine Qcq ?_
   refine Qbw ?_
   refine Qg ?_
   refine Xk Y ?_ by7 by5
   clear HN HD HS hu hb;first|(simp_all;done)|grind
  skip
  refine Qcr ?_
  refine Zm 18 Y Y Y Y Y (Zl (xs:=[.tmp 17]) Y Y (HN _) by3 ?_);intro c18 h18
  refine QV ?_
  refine Qd ?_
  obtain ⟨rfl,g18⟩|⟨rfl,g18⟩:=Za h18
  ·skip
   refine QU ?_;intro c22 h22
   refine Qd ?_
   obtain ⟨rfl,g22⟩|⟨rfl,g22⟩:=Za h22
   ·skip
    refine Qm ?_
    refine QV ?_
    refine QV ?_
    refine Qd ?_
    refine QU ?_;intro c32 h32
    refine Qd ?_
    obtain ⟨rfl,g32⟩|⟨rfl,g32⟩:=Za h32
    ·skip
     refine Qm ?_
     refine Qbe ?_
     refine Xk Y ?_ by7 by5
     clear HN HD HS hu hb;first|(simp_all;done)|grind
    skip
    refine Qcr ?_
    refine Zm 37 Y Y Y Y Y (Zl (xs:=[.tmp 36]) Y Y (HS _) by3 ?_);intro c37 h37
    refine Qbe ?_
    refine Xk Y ?_ by7 by5
    clear HN HD HS hu hb;first|(simp_all;done)|grind
   skip
   refine Qcr ?_
   refine Zm 27 Y Y Y Y Y (Zl (xs:=[.tmp 26]) Y Y (HD _) by3 ?_);intro c27 h27
   refine QV ?_
   refine QV ?_
   refine Qd ?_
   obtain ⟨rfl,g27⟩|⟨rfl,g27⟩:=Za h27
   ·skip
    refine QU ?_;intro c32 h32
    refine Qd ?_
    obtain ⟨rfl,g32⟩|⟨rfl,g32⟩:=Za h32
    ·skip
     refine Qm ?_
     refine Qbe ?_
     refine Xk Y ?_ by7 by5
     clear HN HD HS hu hb;first|(simp_all;done)|grind
    skip
    refine Qcr ?_
    refine Zm 37 Y Y Y Y Y (Zl (xs:=[.tmp 36]) Y Y (HS _) by3 ?_);intro c37 h37
    refine Qbe ?_
    refine Xk Y ?_ by7 by5
    clear HN HD HS hu hb;first|(simp_all;done)|grind
   skip
   refine Qcq ?_
   refine Qbw ?_
   refine Qg ?_
   refine Xk Y ?_ by7 by5
   clear HN HD HS hu hb;first|(simp_all;done)|grind
  skip
  refine Qcq ?_
  refine Qbw ?_
  refine Qd ?_
  refine Qcq ?_
  refine Qbw ?_
  refine Qg ?_
  refine Xk Y ?_ by7 by5
  clear HN HD HS hu hb;first|(simp_all;done)|grind
 intro c40 h40
 refine Qc ?_
 obtain ⟨rfl,g40⟩|⟨rfl,g40⟩:=Za h40
 ·refine Qcn ?_
  refine Qs ?_
  refine Zg Y Y (Le.inteq ?_) by5 ⟨Y,Y⟩
  rw [← hu]
  by_cases q:i<s.size
  ·rw [(hb q).2.1,run,if_neg (fun h=>g40 ⟨q,h⟩)];simp
  rw [rst_nil by18];simp [run]
 refine Qab ?_
 refine QbN ?_
 refine QaF ?_
 refine ⟨i+1,⟨by omega,?_⟩,by simp;omega,by6,by5⟩
 rw [(hb g40.1).2.1,run,if_pos g40.2] at hu
 omega
theorem over_exit {s:ByteArray} {j:Nat} {d:UInt8} (hd:j<s.size→s[j]?=some d∧rst s j=d.toNat::rst s (j+1)∧d.toNat<256) (h:¬ (j<s.size∧d.toNat≠10)):ovr true (rst s j)=ovr false (rst s j):=by
 by_cases q:j<s.size
 ·have h2:d.toNat=10:=Classical.not_not.1 fun h3=>h ⟨q,h3⟩
  rw [(hd q).2.1,h2,ovr_10]
 rw [rst_nil by18,ovr_nil,ovr_nil]
theorem over_c (s:ByteArray) (hs:s.size≤60000) (at_:Nat) (ha:at_≤s.size):PCall Tryz.prog 69 [.val (.string s),.val (.int .i64 at_)] (.val (.int .i64 ((at_+ovr false (rst s at_):Nat):Int))):=by
 have HB:=blank_c
 refine Zc Tryz.func69 Y (by kernel_rfl) Y (Xm Y) ?_
 refine Qa7 ?_
 refine Qa6 ?_
 refine c_loop (σ:=Nat) (fun zz=>match zz with|i=>[(0,.val (.string s)),(1,.val (.int .i64 i))]) (fun zz=>match zz with|i=>[]) (fun zz=>match zz with|i=>i≤s.size∧i+ovr false (rst s i)=at_+ovr false (rst s at_)) (fun zz=>match zz with|i=>s.size - i) (at_) ?_ ?_ ?_ ?_
 ·exact ⟨ha,Y⟩
 ·exact by6
 ·exact by5
 rintro i hI
 try dsimp only [List.cons_append,List.nil_append] at hI ⊢
 obtain ⟨hi,hu⟩:=hI
 refine QL ?_
 obtain ⟨b,hb⟩:=byteAt_ s i
 refine Zx 20 (i<s.size∧(blankC b.toNat=true∨b.toNat=35)) ?_ _ _ Y ?_
 ·skip
  refine QaA ?_
  refine QbW ?_;intro c8 h8
  refine Qb ?_
  obtain ⟨rfl,g8⟩|⟨rfl,g8⟩:=Za h8
  ·skip
   refine Qa9 ?_
   refine Qa8 ?_
   refine QZ ?_
   refine Qg ?_
   refine Xk Y ?_ by7 by5
   clear HB hu hb;first|(simp_all;done)|grind
  skip
  refine Qcr ?_
  refine Zm 13 Y Y Y Y Y (Zl (xs:=[.tmp 12]) Y Y (HB _) by3 ?_);intro c13 h13
  refine Qd ?_
  obtain ⟨rfl,g13⟩|⟨rfl,g13⟩:=Za h13
  ·skip
   refine Qcr ?_
   refine Qan ?_;intro c18 h18
   refine QV ?_
   refine Qg ?_
   refine Xk Y ?_ by7 by5
   clear HB hu hb;first|(simp_all;done)|grind
  skip
  refine Qm ?_
  refine QV ?_
  refine Qg ?_
  refine Xk Y ?_ by7 by5
  clear HB hu hb;first|(simp_all;done)|grind
 intro c20 h20
 refine Qc ?_
 obtain ⟨rfl,g20⟩|⟨rfl,g20⟩:=Za h20
 ·refine Qcn ?_
  refine Qs ?_
  refine Zg Y Y (Le.inteq ?_) by5 ⟨Y,Y⟩
  rw [← hu]
  by_cases q:i<s.size
  ·rw [(hb q).2.1,ovr_stop _ (fun h=>g20 ⟨q,.inr h⟩) (fun h=>g20 ⟨q,.inl h⟩)];simp
  rw [rst_nil by18,ovr_nil];simp
 refine Qab ?_
 refine QP ?_
 refine Zb 23 Y Y Y (Yj Y tu_9 Y Y Y ((hb g20.1).1) ?_)
 refine Qj ?_;intro c24 h24
 refine Qa ?_
 obtain ⟨rfl,g24⟩|⟨rfl,g24⟩:=Za h24
 ·refine QH ?_
  refine QbN ?_
  refine QaF ?_
  first
  | (have hx:=over_exit hd g34
     have hij:i<j:=by
      rcases Nat.lt_or_ge i j with q|q
      ·exact q
      have:j=i:=by omega
      subst this
      have e:=(hd g20.1).1.symm.trans (hb g20.1).1
      cases e
      exact absurd ⟨g20.1,by omega⟩ g34
     exact ⟨j,⟨j2,by rw [← hx];exact hj⟩,by simp;omega,by6,by5⟩)
  | (refine ⟨i+1,⟨by omega,?_⟩,by simp;omega,by6,by5⟩
     have hn:b.toNat≠35:=by omega
     rw [(hb g20.1).2.1,ovr_blank _ hn (g20.2.resolve_right hn)] at hu
     omega)
 refine Qh ?_
 refine Qam ?_
 apply Zy (rg [(1,3),(25,12)]) (σ:=Nat) (fun zz=>match zz with|j=>[(1,.val (.int .i64 j))]) (fun zz=>match zz with|j=>i≤j∧j≤s.size∧j+ovr true (rst s j)=at_+ovr false (rst s at_)) (fun zz=>match zz with|j=>s.size - j) (i)
 ·repeat' (first|exact Xp|apply Xn rfl|apply Xo rfl)
 ·exact ⟨Nat.le_refl _,hi,by rw [← hu,(hb g20.1).2.1,show b.toNat=35 by omega,ovr_35]⟩
 ·exact by6
 rintro j hI
 try dsimp only [List.cons_append,List.nil_append] at hI ⊢
 obtain ⟨j1,j2,hj⟩:=hI
 refine QL ?_
 obtain ⟨d,hd⟩:=byteAt_ s j
 refine Zx 34 (j<s.size∧d.toNat≠10) ?_ _ _ Y ?_
 ·skip
  refine QaA ?_
  refine QbW ?_;intro c28 h28
  refine Qb ?_
  obtain ⟨rfl,g28⟩|⟨rfl,g28⟩:=Za h28
  ·skip
   refine Qm ?_
   refine Qg ?_
   refine Xk Y ?_ by7 by5
   simp_all;omega
  skip
  refine Qch ?_
  refine Zm 32 Y Y Y Y Y (Yj Y tu_9 Y Y Y ((hd by18).1) ?_)
  refine QaD ?_;intro c33 h33
  refine Qg ?_
  refine Xk Y ?_ by7 by5
  simp_all;omega
 intro c34 h34
 refine Qc ?_
 obtain ⟨rfl,g34⟩|⟨rfl,g34⟩:=Za h34
 ·refine QH ?_
  refine c_exit (x_code (x_lp (x_here ?_)))
  refine Qbn ?_
  first
  | (have hx:=over_exit hd g34
     have hij:i<j:=by
      rcases Nat.lt_or_ge i j with q|q
      ·exact q
      have:j=i:=by omega
      subst this
      have e:=(hd g20.1).1.symm.trans (hb g20.1).1
      cases e
      exact absurd ⟨g20.1,by omega⟩ g34
     exact ⟨j,⟨j2,by rw [← hx];exact hj⟩,by simp;omega,by6,by5⟩)
  | (refine ⟨i+1,⟨by omega,?_⟩,by simp;omega,by6,by5⟩
     have hn:b.toNat≠35:=by omega
     rw [(hb g20.1).2.1,ovr_blank _ hn (g20.2.resolve_right hn)] at hu
     omega)
 refine Qab ?_
 refine QbN ?_
 refine QaF ?_
 refine ⟨j+1,⟨by omega,by omega,?_⟩,by simp;omega,by6,by5⟩
 rw [(hd g34.1).2.1,ovr_n10 _ g34.2] at hj
 omega
theorem among_c (s:ByteArray) (l:List ByteArray):BCall Tryz.prog 99 [.val (.string s),.seq 1 (strs l)] (amongB s l=true):=by
 have hl:=Yz l
 refine Zc Tryz.func99 Y (by kernel_rfl) Y (Xm Y) ?_
 refine Q5 ?_
 refine c_lens (t:=1) Y (.seq _ _) (fun hmax=>?_)
 refine Qcm ?_
 refine Q3 ?_
 refine c_loop (σ:=Nat) (fun zz=>match zz with|i=>[(0,.val (.string s)),(1,.seq 1 (strs l)),(5,.val (.int .i64 i))]) (fun zz=>match zz with|i=>[]) (fun zz=>match zz with|i=>i≤l.length∧amongB s l=amongB s (l.drop i)) (fun zz=>match zz with|i=>l.length - i) (0) ?_ ?_ ?_ ?_
 ·exact ⟨Nat.zero_le _,Y⟩
 ·exact by6
 ·exact by5
 rintro i hI
 try dsimp only [List.cons_append,List.nil_append] at hI ⊢
 obtain ⟨hi,hu⟩:=hI
 refine Qal ?_
 refine Qa4 ?_;intro n8
 refine Qk ?_;intro c9 h9
 refine Qa ?_
 obtain ⟨rfl,g9⟩|⟨rfl,g9⟩:=Za h9
 ·refine QaM ?_
  exact Zg Y Y (Xg _) by5 ⟨⟨_,Yw (by rw [hu,List.drop_eq_nil_of_le by18];simp [amongB]),Y⟩,Y⟩
 refine Qx ?_
 obtain ⟨x,hx⟩:=Zo (l:=l) (i:=i) by18
 have hcx:=strs_get hx
 have hd:l.drop i=x::l.drop (i+1):=by
  obtain ⟨h1,h2⟩:=List.getElem?_eq_some_iff.1 hx
  rw [List.drop_eq_getElem_cons h1,h2]
 refine QF ?_
 refine Qd3 ?_
 refine QbG ?_
 refine Qb ?_
 refine Qas ?_;intro c17 h17
 refine Qa ?_
 obtain ⟨rfl,g17⟩|⟨rfl,g17⟩:=Za h17
 ·refine Q8 ?_
  exact ⟨i+1,⟨by omega,by rw [hu,hd];simp [amongB];intro q;contradiction⟩,by simp;omega,by6,by5⟩
 refine Qr ?_
 exact Zg Y Y (Xg _) by5 ⟨⟨_,iff_t (by rw [hu,hd];simp [amongB];exact .inl by16),Y⟩,Y⟩
theorem Key_c (s:ByteArray):BCall Tryz.prog 78 [.val (.string s)] (keyT s=true):=by
 have H:=among_c s keysL
 rw [show amongB s keysL=keyT s from rfl] at H
 simp only [strs,keysL,List.map_cons,List.map_nil] at H
 refine Zc Tryz.func78 Y (by kernel_rfl) Y (Xm Y) ?_
 refine Qcp ?_
 refine Zb 4 Y Y Y (Zd (xs:=[.const (.string ⟨#[100,97,116,97]⟩),.const (.string ⟨#[99,108,97,115,115]⟩),.const (.string ⟨#[105,110,115,116,97,110,99,101]⟩),.const (.string ⟨#[102,114,111,109]⟩),.const (.string ⟨#[119,104,101,114,101]⟩),.const (.string ⟨#[101,110,100]⟩),.const (.string ⟨#[100,101,114,105,118,105,110,103]⟩),.const (.string ⟨#[100,101,102]⟩),.const (.string ⟨#[108,101,116]⟩),.const (.string ⟨#[114,101,99]⟩),.const (.string ⟨#[97,110,100]⟩),.const (.string ⟨#[105,110]⟩),.const (.string ⟨#[99,97,115,101]⟩),.const (.string ⟨#[111,102]⟩),.const (.string ⟨#[105,102]⟩),.const (.string ⟨#[116,104,101,110]⟩),.const (.string ⟨#[101,108,115,101]⟩)]) el_31 Y Y Y Y Y Y (Xm Y) ?_)
 refine Zb 5 Y Y Y (Zl (xs:=[.tmp 3,.tmp 4]) Y Y (H) by3 ?_);intro c5 h5
 refine Qs ?_
 exact Zg Y Y (Xg _) by5 ⟨⟨_,h5,Y⟩,Y⟩
theorem Mark_c (s:ByteArray):BCall Tryz.prog 93 [.val (.string s)] (markT s=true):=by
 have H:=among_c s marksL
 rw [show amongB s marksL=markT s from rfl] at H
 simp only [strs,marksL,List.map_cons,List.map_nil] at H
 refine Zc Tryz.func93 Y (by kernel_rfl) Y (Xm Y) ?_
 refine Qcp ?_
 refine Zb 4 Y Y Y (Zd (xs:=[.const (.string ⟨#[40]⟩),.const (.string ⟨#[41]⟩),.const (.string ⟨#[44]⟩),.const (.string ⟨#[59]⟩),.const (.string ⟨#[92]⟩),.const (.string ⟨#[95]⟩),.const (.string ⟨#[61]⟩),.const (.string ⟨#[45,62]⟩),.const (.string ⟨#[124]⟩),.const (.string ⟨#[58]⟩)]) el_31 Y Y Y Y Y Y (Xm Y) ?_)
 refine Zb 5 Y Y Y (Zl (xs:=[.tmp 3,.tmp 4]) Y Y (H) by3 ?_);intro c5 h5
 refine Qs ?_
 exact Zg Y Y (Xg _) by5 ⟨⟨_,h5,Y⟩,Y⟩
def utfE (m:Int) (n:Nat):Option Int→Nat
 | none=>0
 | some v=>if v<m∨1114111<v∨(55296≤v∧v≤57343) then 0 else n
theorem utfL_go {c:Nat} {l:List Nat} (h1:¬ c<128) (h2:¬ (utfN c=0∨l.length+1<utfN c)):utfL (c::l)=utfE (utfM c) (utfN c) (cont (utfN c - 1) (utfV c) l):=by
 rw [utfL_cons,if_neg h1,if_neg h2]
 cases cont (utfN c - 1) (utfV c) l <;> rfl
theorem utfL_no {c:Nat} {l:List Nat} (h1:¬ c<128) (h2:utfN c=0∨l.length+1<utfN c):utfL (c::l)=0:=by
 rw [utfL_cons,if_neg h1,if_pos h2]
theorem pow_mono_ (i:Nat) (h:i≤4) (h1:1≤i):(64:Int) ^ (i - 1)≤262144∧(64:Int) ^ (i+1 - 1)=64 * 64 ^ (i - 1):=by
 rcases (by omega:i=1∨i=2∨i=3∨i=4) with rfl|rfl|rfl|rfl <;> decide
theorem utf_b (c:Nat):(utfN c=0∨2≤utfN c)∧utfN c≤4∧0≤utfV c∧utfV c+1≤32:=by
 refine ⟨?_,utfN_le _,?_,?_⟩
 ·unfold utfN;(repeat' split) <;> omega
 ·unfold utfV;(repeat' split) <;> omega
 unfold utfV;(repeat' split) <;> omega
theorem utf_all {c:Nat} (n v m:Int) (a1:192≤c∧c<224→n=2∧v=(c:Int) - 192∧m=128) (a2:224≤c∧c<240→n=3∧v=(c:Int) - 224∧m=2048) (a3:240≤c∧c<248→n=4∧v=(c:Int) - 240∧m=65536) (a4:c<192∨248≤c→n=0∧v=0∧m=0):n=(utfN c:Nat)∧v=utfV c∧m=utfM c:=by
 unfold utfN utfV utfM
 refine ⟨?_,?_,?_⟩
 ·(repeat' split) <;> omega
 ·(repeat' split) <;> omega
 (repeat' split) <;> omega
theorem Utf_c (s:ByteArray) (hs:s.size≤60000) (at_:Nat) (ha:at_<s.size):PCall Tryz.prog 86 [.val (.string s),.val (.int .i64 at_)] (.val (.int .i64 (utfL (rst s at_):Nat))):=by
 obtain ⟨b,hb,hr,hlt⟩:=Yu ha
 rw [hr]
 have hl:=rst_len s (at_+1)
 have hno:=utfL_no (c:=b.toNat) (l:=rst s (at_+1))
 have hgo:=utfL_go (c:=b.toNat) (l:=rst s (at_+1))
 rw [hl] at hno hgo
 refine Zc Tryz.func86 Y (by kernel_rfl) Y (Xm Y) ?_
 refine Qa7 ?_
 refine QP ?_
 refine QcS ?_
 refine QeV ?_
 refine Qf ?_
 refine QK ?_
 refine QK ?_
 refine QK ?_
 refine Qw ?_
 refine Qk ?_;intro c16 h16
 refine Qa ?_
 obtain ⟨rfl,g16⟩|⟨rfl,g16⟩:=Za h16
 ·refine QbT ?_
  refine Zx 22 (192≤b.toNat∧b.toNat<224) ?_ _ _ Y ?_
  ·skip
   refine Qco ?_;intro c18 h18
   refine Qb ?_
   obtain ⟨rfl,g18⟩|⟨rfl,g18⟩:=Za h18
   ·skip
    refine Qai ?_
    refine Xk Y ?_ by7 by5
    clear hno hgo;first|(simp_all;done)|(simp_all;omega)|grind
   skip
   refine Qd ?_
   refine Qdf ?_;intro c21 h21
   refine Qg ?_
   refine Xk Y ?_ by7 by5
   clear hno hgo;first|(simp_all;done)|(simp_all;omega)|grind
  intro c22 h22
  refine Qc ?_
  apply c_joinkm (rg [(2,2),(6,3),(11,14)]) (σ:=Int × Int × Int) (fun zz=>match zz with|(n,v,m)=>[(6,.val (.int .i64 n)),(7,.val (.int .i64 v)),(8,.val (.int .i64 m))]) (fun zz=>match zz with|(n,v,m)=>(192≤b.toNat∧b.toNat<224→n=2∧v=(b.toNat:Int) - 192∧m=128)∧(¬ (192≤b.toNat∧b.toNat<224)→n=0∧v=0∧m=0))
  ·repeat' (first|exact Xp|apply Xn rfl|apply Xo rfl)
  ·skip
   obtain ⟨rfl,g22⟩|⟨rfl,g22⟩:=Za h22
   ·refine Qbx ?_
    first|exact ⟨(2,(b.toNat:Int) - 192,128),⟨fun _=>⟨rfl,rfl,rfl⟩,fun q=>absurd g22 q⟩,by6,by5⟩|exact ⟨(0,0,0),⟨fun q=>absurd q g22,fun _=>⟨rfl,rfl,rfl⟩⟩,by6,by5⟩
   refine Qh ?_
   refine QK ?_
   refine QJ ?_
   refine QT ?_
   refine Qf ?_
   refine Qi ?_
   refine Qap ?_
   first|exact ⟨(2,(b.toNat:Int) - 192,128),⟨fun _=>⟨rfl,rfl,rfl⟩,fun q=>absurd g22 q⟩,by6,by5⟩|exact ⟨(0,0,0),⟨fun q=>absurd q g22,fun _=>⟨rfl,rfl,rfl⟩⟩,by6,by5⟩
  rintro ⟨n,v,m⟩ hI
  try dsimp only [List.cons_append,List.nil_append] at hI ⊢
  obtain ⟨j1,j2⟩:=hI
  refine Qc ?_
  refine QL ?_
  refine Zx 30 (224≤b.toNat∧b.toNat<240) ?_ _ _ Y ?_
  ·skip
   refine Qco ?_;intro c26 h26
   refine Qb ?_
   obtain ⟨rfl,g26⟩|⟨rfl,g26⟩:=Za h26
   ·skip
    refine Qai ?_
    refine Xk Y ?_ by7 by5
    clear hno hgo;first|(simp_all;done)|(simp_all;omega)|grind
   skip
   refine Qd ?_
   refine Qdf ?_;intro c29 h29
   refine Qg ?_
   refine Xk Y ?_ by7 by5
   clear hno hgo;first|(simp_all;done)|(simp_all;omega)|grind
  intro c30 h30
  refine Qc ?_
  apply c_joinkm (rg [(2,2),(6,3),(11,22)]) (σ:=Int × Int × Int) (fun zz=>match zz with|(n2,v2,m2)=>[(6,.val (.int .i64 n2)),(7,.val (.int .i64 v2)),(8,.val (.int .i64 m2))]) (fun zz=>match zz with|(n2,v2,m2)=>(224≤b.toNat∧b.toNat<240→n2=3∧v2=(b.toNat:Int) - 224∧m2=2048)∧(¬ (224≤b.toNat∧b.toNat<240)→n2=n∧v2=v∧m2=m))
  ·repeat' (first|exact Xp|apply Xn rfl|apply Xo rfl)
  ·skip
   obtain ⟨rfl,g30⟩|⟨rfl,g30⟩:=Za h30
   ·refine Qbx ?_
    first|exact ⟨(3,(b.toNat:Int) - 224,2048),⟨fun _=>⟨rfl,rfl,rfl⟩,fun q=>absurd g30 q⟩,by6,by5⟩|exact ⟨(n,v,m),⟨fun q=>absurd q g30,fun _=>⟨rfl,rfl,rfl⟩⟩,by6,by5⟩
   refine Qh ?_
   refine QK ?_
   refine QJ ?_
   refine QT ?_
   refine Qf ?_
   refine Qi ?_
   refine Qap ?_
   first|exact ⟨(3,(b.toNat:Int) - 224,2048),⟨fun _=>⟨rfl,rfl,rfl⟩,fun q=>absurd g30 q⟩,by6,by5⟩|exact ⟨(n,v,m),⟨fun q=>absurd q g30,fun _=>⟨rfl,rfl,rfl⟩⟩,by6,by5⟩
  rintro ⟨n2,v2,m2⟩ hI
  try dsimp only [List.cons_append,List.nil_append] at hI ⊢
  obtain ⟨j3,j4⟩:=hI
  refine Qc ?_
  refine QL ?_
  refine Zx 38 (240≤b.toNat∧b.toNat<248) ?_ _ _ Y ?_
  ·skip
   refine Qco ?_;intro c34 h34
   refine Qb ?_
   obtain ⟨rfl,g34⟩|⟨rfl,g34⟩:=Za h34
   ·skip
    refine Qai ?_
    refine Xk Y ?_ by7 by5
    clear hno hgo;first|(simp_all;done)|(simp_all;omega)|grind
   skip
   refine Qd ?_
   refine Qdf ?_;intro c37 h37
   refine Qg ?_
   refine Xk Y ?_ by7 by5
   clear hno hgo;first|(simp_all;done)|(simp_all;omega)|grind
  intro c38 h38
  refine Qc ?_
  apply c_joinkm (rg [(2,2),(5,4),(11,30)]) (σ:=Int × Int × Int) (fun zz=>match zz with|(n3,v3,m3)=>[(6,.val (.int .i64 n3)),(7,.val (.int .i64 v3)),(8,.val (.int .i64 m3))]) (fun zz=>match zz with|(n3,v3,m3)=>n3=(utfN b.toNat:Nat)∧v3=utfV b.toNat∧m3=utfM b.toNat)
  ·repeat' (first|exact Xp|apply Xn rfl|apply Xo rfl)
  ·skip
   obtain ⟨rfl,g38⟩|⟨rfl,g38⟩:=Za h38
   ·refine Qbx ?_
    first|exact ⟨(4,(b.toNat:Int) - 240,65536),utf_all _ _ _ (fun q=>by omega) (fun q=>by omega) (fun _=>⟨rfl,rfl,rfl⟩) (fun q=>by omega),by6,by5⟩|exact ⟨(n2,v2,m2),utf_all _ _ _ (fun q=>by have:=j1 q;have:=j4 by18;omega) (fun q=>j3 q) (fun q=>absurd q g38) (fun q=>by have:=j2 by18;have:=j4 by18;omega),by6,by5⟩
   refine Qh ?_
   refine QK ?_
   refine QJ ?_
   refine QT ?_
   refine Qf ?_
   refine Qi ?_
   refine Qap ?_
   first|exact ⟨(4,(b.toNat:Int) - 240,65536),utf_all _ _ _ (fun q=>by omega) (fun q=>by omega) (fun _=>⟨rfl,rfl,rfl⟩) (fun q=>by omega),by6,by5⟩|exact ⟨(n2,v2,m2),utf_all _ _ _ (fun q=>by have:=j1 q;have:=j4 by18;omega) (fun q=>j3 q) (fun q=>absurd q g38) (fun q=>by have:=j2 by18;have:=j4 by18;omega),by6,by5⟩
  rintro ⟨n3,v3,m3⟩ hI
  try dsimp only [List.cons_append,List.nil_append] at hI ⊢
  obtain ⟨rfl,rfl,rfl⟩:=hI
  have hN:=utf_b b.toNat
  clear j1 j2 j3 j4
  generalize utfN b.toNat=N at *
  generalize utfV b.toNat=V at *
  generalize utfM b.toNat=W at *
  obtain ⟨k1,k2,k3,k4⟩:=hN
  refine Qc ?_
  refine QL ?_
  refine Zx 50 (N=0∨s.size<at_+N) ?_ _ _ Y ?_
  ·skip
   refine QbV ?_;intro c42 h42
   refine Qb ?_
   obtain ⟨rfl,g42⟩|⟨rfl,g42⟩:=Za h42
   ·skip
    refine Qch ?_
    refine QeW ?_
    refine Qd ?_
    refine QdF ?_
    refine QcJ ?_;intro c49 h49
    refine Qg ?_
    refine Xk Y ?_ by7 by5
    clear hno hgo;first|(simp_all;done)|(simp_all;omega)|grind
   skip
   refine Qm ?_
   refine Qai ?_
   refine Xk Y ?_ by7 by5
   clear hno hgo;first|(simp_all;done)|(simp_all;omega)|grind
  intro c50 h50
  refine Qc ?_
  obtain ⟨rfl,g50⟩|⟨rfl,g50⟩:=Za h50
  ·refine QbT ?_
   have hU:=hgo by18 by18
   refine c_le (al':=[(0,.val (.string s)),(1,.val (.int .i64 at_)),(6,.val (.int .i64 N)),(7,.val (.int .i64 V)),(8,.val (.int .i64 W))]) by6 (MLe.refl _) ?_
   refine QbU ?_
   apply Zy (rg [(2,4),(7,1),(9,64)]) (σ:=Nat × Int) (fun zz=>match zz with|(i,v)=>[(7,.val (.int .i64 v)),(9,.val (.int .i64 i))]) (fun zz=>match zz with|(i,v)=>1≤i∧i≤N∧0≤v∧v+1≤32 * 64 ^ (i - 1)∧cont (N - 1) V (rst s (at_+1))=cont (N - i) v (rst s (at_+i))) (fun zz=>match zz with|(i,v)=>N - i) ((1,V))
   ·repeat' (first|exact Xp|apply Xn rfl|apply Xo rfl)
   ·refine ⟨Nat.le_refl _,by show 1≤N;omega,by show 0≤V;omega,?_,Y⟩
    show V+1≤32 * 64 ^ 0
    omega
   ·exact by6
   rintro ⟨i,v⟩ hI
   try dsimp only [List.cons_append,List.nil_append] at hI ⊢
   obtain ⟨h1,h2,h3,h4,hu⟩:=hI
   have hp:=pow_mono_ i by18 h1
   refine Qal ?_
   refine Qk ?_;intro c53 h53
   refine Qa ?_
   obtain ⟨rfl,g53⟩|⟨rfl,g53⟩:=Za h53
   ·refine Qbp ?_
    have he:utfL (b.toNat::rst s (at_+1))=utfE W N (some v):=by rw [hU,hu,show N - i=0 by omega];cases rst s (at_+i) <;> rfl
    refine Zx 87 (v<W∨1114111<v∨(55296≤v∧v≤57343)) ?_ _ _ Y ?_
    ·skip
     refine QaA ?_
     refine Qk ?_;intro c75 h75
     refine Qb ?_
     obtain ⟨rfl,g75⟩|⟨rfl,g75⟩:=Za h75
     ·skip
      refine Qd ?_
      refine QcJ ?_;intro c78 h78
      refine Qq ?_
      obtain ⟨rfl,g78⟩|⟨rfl,g78⟩:=Za h78
      ·skip
       refine Qd ?_
       refine Qd4 ?_;intro c82 h82
       refine Qd ?_
       obtain ⟨rfl,g82⟩|⟨rfl,g82⟩:=Za h82
       ·skip
        refine Qad ?_
        refine QV ?_
        refine Qg ?_
        refine Xk Y ?_ by7 by5
        simp_all;omega
       skip
       refine Qd ?_
       refine Qc4 ?_;intro c85 h85
       refine QV ?_
       refine Qg ?_
       refine Xk Y ?_ by7 by5
       simp_all;omega
      skip
      refine QaL ?_
      refine QaW ?_
      refine QZ ?_
      refine Qg ?_
      refine Xk Y ?_ by7 by5
      simp_all;done
     skip
     refine Qbd ?_
     refine QaL ?_
     refine QaW ?_
     refine QZ ?_
     refine Qg ?_
     refine Xk Y ?_ by7 by5
     simp_all;done
    intro c87 h87
    refine Qc ?_
    obtain ⟨rfl,g87⟩|⟨rfl,g87⟩:=Za h87
    ·refine QY ?_
     refine Qs ?_
     exact Zg Y Y (Le.inteq (by rw [he,utfE,if_neg g87])) by5 ⟨Y,Y⟩
    refine Qr ?_
    exact Zg Y Y (Le.inteq (by rw [he,utfE,if_pos g87];rfl)) by5 ⟨Y,Y⟩
   refine Qx ?_
   obtain ⟨d,hd,hrd,hdl⟩:=Yu (s:=s) (i:=at_+i) by18
   refine QF ?_
   refine Qb ?_
   refine QaI ?_
   refine Zb 60 Y Y Y (Yj (i:=at_+i) Y tu_9 Y Y by12 (hd) ?_)
   refine QeV ?_
   refine Qba ?_
   refine Zx 67 (d.toNat<128∨191<d.toNat) ?_ _ _ Y ?_
   ·skip
    refine Qb ?_
    refine Qk ?_;intro c63 h63
    refine Qb ?_
    obtain ⟨rfl,g63⟩|⟨rfl,g63⟩:=Za h63
    ·skip
     refine Qd ?_
     refine QcJ ?_;intro c66 h66
     refine Qg ?_
     refine Xk Y ?_ by7 by5
     simp_all;omega
    skip
    refine Qai ?_
    refine Xk Y ?_ by7 by5
    simp_all;omega
   intro c67 h67
   refine Qc ?_
   obtain ⟨rfl,g67⟩|⟨rfl,g67⟩:=Za h67
   ·refine QN ?_
    refine Qe ?_
    refine Zb 69 Y Y Y (op_mul Y Y Y (IntWalk.i64_in _ by18) ?_)
    refine Qb ?_
    refine QaI ?_
    refine QT ?_
    refine Qaz ?_
    refine ⟨(i+1,64 * v+d.toNat - 128),⟨by omega,by omega,by omega,?_,?_⟩,by simp;omega,by6,by5⟩
    ·rw [hp.2];omega
    rw [hu,hrd,show N - i=(N - (i+1))+1 by omega,cont,if_neg by18];rfl
   refine Qr ?_
   exact Zg Y Y (Le.inteq (by rw [hU,hu,hrd,show N - i=(N - i - 1)+1 by omega,cont,if_pos by18];rfl)) by5 ⟨Y,Y⟩
  refine Qr ?_
  exact Zg Y Y (Le.inteq (by rw [hno by18 by18];rfl)) by5 ⟨Y,Y⟩
 refine Qr ?_
 exact Zg Y Y (Le.inteq (by rw [utfL_cons,if_pos by18];rfl)) by5 ⟨Y,Y⟩
theorem bad_c (s:ByteArray) (hs:s.size≤60000):PCall Tryz.prog 68 [.val (.string s)] (.val (.int .i64 (badF (s.size+1) 0 (rst s 0)))):=by
 refine Zc Tryz.func68 Y (by kernel_rfl) Y (Xm Y) ?_
 refine Qbc ?_
 refine Q3 ?_
 refine c_loop (σ:=Nat × Nat) (fun zz=>match zz with|(i,f)=>[(0,.val (.string s)),(3,.val (.int .i64 i))]) (fun zz=>match zz with|(i,f)=>[]) (fun zz=>match zz with|(i,f)=>i≤s.size∧s.size - i<f∧badF (s.size+1) 0 (rst s 0)=badF f i (rst s i)) (fun zz=>match zz with|(i,f)=>s.size - i) ((0,s.size+1)) ?_ ?_ ?_ ?_
 ·exact ⟨Nat.zero_le _,by omega,Y⟩
 ·exact by6
 ·exact by5
 rintro ⟨i,f⟩ hI
 try dsimp only [List.cons_append,List.nil_append] at hI ⊢
 obtain ⟨hi,hf,hu⟩:=hI
 refine Qal ?_
 refine QbW ?_;intro c8 h8
 refine Qa ?_
 obtain ⟨rfl,g8⟩|⟨rfl,g8⟩:=Za h8
 ·refine QaM ?_
  refine Zg Y Y (Le.inteq ?_) by5 ⟨Y,Y⟩
  rw [hu,rst_nil by18]
  cases f <;> rfl
 refine Qab ?_
 refine QG ?_
 obtain ⟨b,_,hr,_⟩:=Yu (s:=s) (i:=i) by18
 have hle:=utfL_le (rst s i)
 rw [rst_len] at hle
 obtain ⟨f,rfl⟩:∃ f',f=f'+1:=⟨f - 1,by omega⟩
 have hb:badF (f+1) i (rst s i)=if utfL (rst s i)=0 then (i:Int) else badF f (i+utfL (rst s i)) (rst s (i+utfL (rst s i))):=by
  rw [← rst_drop,hr];rfl
 refine QF ?_
 refine Zb 11 Y Y Y (Ze (xs:=[.tmp 9,.tmp 10]) Y Y (Utf_c s hs i by18) by3 ?_)
 refine Qcs ?_
 refine Qj ?_;intro c13 h13
 refine Qa ?_
 obtain ⟨rfl,g13⟩|⟨rfl,g13⟩:=Za h13
 ·refine QN ?_
  refine QF ?_
  refine QaI ?_
  refine QaF ?_
  refine ⟨(i+utfL (rst s i),f),⟨by omega,by omega,?_⟩,by simp;omega,by6,by5⟩
  rw [hu,hb,if_neg by18]
 refine QaP ?_
 refine Qs ?_
 refine Zg Y Y (Le.inteq ?_) by5 ⟨Y,Y⟩
 rw [hu,hb,if_pos by18]
def zi (l:List Nat):List Int:=l.map fun k:Nat=>(k:Int)
theorem zi_len (l:List Nat):(bts (zi l)).length=l.length:=by simp [bts,zi]
def txR (at_:Nat):Option (List Nat × Nat)→AV
 | none=>.tup [.val (.string ⟨#[]⟩),.val (.int .i64 0),.val (.bool false)]
 | some r=>.tup [.val (.string (strN r.1)),.val (.int .i64 ((at_+1+r.2:Nat):Int)),.val (.bool true)]
theorem tx_end (l:List Nat):txL (34::l)=some ([],1):=by rw [txL.eq_def];rfl
theorem tx_10 (l:List Nat):txL (10::l)=none:=by rw [txL.eq_def];rfl
theorem tx_more {c:Nat} (l:List Nat) (h1:c≠34) (h2:c≠10) (h3:c≠92):txL (c::l)=(txL l).map fun r=>(c::r.1,r.2+1):=by
 rw [txL.eq_def];simp only [if_neg h1,if_neg h2,if_neg h3]
theorem tx_esc0:txL [92]=none:=by rfl
theorem tx_esc (d:Nat) (l:List Nat):txL (92::d::l)=match unesc d with
    | none=>none
    | some x=>(txL l).map fun r=>(x::r.1,r.2+2):=by rw [txL.eq_def];rfl
theorem Yx {A:Option (List Nat × Nat)} {acc:List Nat} {k k' x m:Nat} (h:k'=k+m):(A.map fun r:List Nat × Nat=>(x::r.1,r.2+m)).map (fun r:List Nat × Nat=>(acc++r.1,r.2+k))=A.map fun r:List Nat × Nat=>((acc++[x])++r.1,r.2+k'):=by
 cases A with
 | none=>rfl
 | some r=>simp;omega
theorem escBytes:bytesN ⟨#[110,116,34,92]⟩=[110,116,34,92]:=by decide
theorem text_c (s:ByteArray) (hs:s.size≤60000) (at_:Nat) (ha:at_<s.size):PCall Tryz.prog 88 [.val (.string s),.val (.int .i64 at_)] (txR at_ (txL (rst s (at_+1)))):=by
 have HI:=fun c=>in_c ⟨#[110,116,34,92]⟩ by17 c
 rw [escBytes] at HI
 refine Zc Tryz.func88 Y (by kernel_rfl) Y (Xm Y) ?_
 refine Qn ?_
 refine Qa3 ?_
 refine Qav ?_
 refine QK ?_
 refine QL ?_
 refine ACode.ownNil (t:=7) 5 1 Y ?_
 refine QbN ?_
 refine Qf ?_
 refine Qam ?_
 apply Ye (rg [(1,50)]) (σ:=Nat × List Nat × Value) (fun zz=>match zz with|(i,acc,u)=>[(7,.own u 1 (bts (zi acc))),(8,.val (.int .i64 i))]) (fun zz=>match zz with|(i,acc,u)=>[.own 5 1 u]) (fun zz=>match zz with|(i,acc,u)=>at_+1≤i∧i≤s.size∧acc.length≤i∧txL (rst s (at_+1))=(txL (rst s i)).map fun r=>(acc++r.1,r.2+(i - (at_+1)))) (fun zz=>match zz with|(i,acc,u)=>s.size - i) ((at_+1,[],.slice none 0 0))
 ·repeat' (first|exact Xp|apply Xn rfl|apply Xo rfl)
 ·refine ⟨Nat.le_refl _,ha,Nat.zero_le _,?_⟩
  cases txL (rst s (at_+1)) <;> simp
 ·exact (by repeat' (first|exact SLe.nil _|refine Xj Y ?_ ?_|exact Xg _|exact Le.own _ _ _|exact Le.nil _|(refine Xl ?_;rfl)|(refine Le.own_seq ?_;rfl)|(refine Le.seq_eq ?_;rfl)))
 ·exact by5
 rintro ⟨i,acc,u⟩ hI
 try dsimp only [List.cons_append,List.nil_append] at hI ⊢
 obtain ⟨h1,h2,h3,hu⟩:=hI
 have hle:(bts (zi acc)).length≤100000000:=by rw [zi_len];omega
 refine Qal ?_
 refine QbW ?_;intro c15 h15
 refine Qa ?_
 obtain ⟨rfl,g15⟩|⟨rfl,g15⟩:=Za h15
 ·refine QaE ?_
  refine Qo ?_
  refine Qct ?_
  refine out_ttt Y Y Y Y (Xg _) by5 ⟨?_,Y⟩
  rw [hu,rst_nil by18];rfl
 refine Qx ?_
 obtain ⟨b,hb,hr,hlt⟩:=Yu (s:=s) (i:=i) by18
 refine QF ?_
 refine QcS ?_
 refine Qcs ?_
 refine Qj ?_;intro c22 h22
 refine Qa ?_
 obtain ⟨rfl,g22⟩|⟨rfl,g22⟩:=Za h22
 ·refine QaB ?_
  refine Qj ?_;intro c28 h28
  refine Qa ?_
  obtain ⟨rfl,g28⟩|⟨rfl,g28⟩:=Za h28
  ·refine QaB ?_
   refine Qj ?_;intro c30 h30
   refine Qa ?_
   obtain ⟨rfl,g30⟩|⟨rfl,g30⟩:=Za h30
   ·refine QN ?_
    refine QF ?_
    refine Qdg ?_
    refine Qdh ?_
    intro u50
    refine Qaz ?_
    first
    |(exfalso;clear hu;omega)
    | (have hm:=tx_more (rst s (i+1)) (c:=b.toNat) (by clear hu;omega) (by clear hu;omega) (by clear hu;omega)
       rw [hr,hm,Yx (k':=i+1 - (at_+1)) by18] at hu
       exact ⟨(i+1,acc++[b.toNat],u50),⟨by omega,by omega,by simp;omega,hu⟩,by simp;omega,Xj Y (Xl by10) by6,by5⟩)
    | (have hx:unesc d.toNat=some 10:=by rw [show d.toNat=110 by clear hu;omega];rfl
       rw [hx] at hu
       simp only [] at hu
       rw [Yx (k':=i+1+1 - (at_+1)) by18] at hu
       exact ⟨(i+1+1,acc++[10],u50),⟨by omega,by omega,by simp;omega,hu⟩,by simp;omega,Xj Y (Xl by10) by6,by5⟩)
    | (have hx:unesc d.toNat=some 9:=by rw [show d.toNat=116 by clear hu;omega];rfl
       rw [hx] at hu
       simp only [] at hu
       rw [Yx (k':=i+1+1 - (at_+1)) by18] at hu
       exact ⟨(i+1+1,acc++[9],u50),⟨by omega,by omega,by simp;omega,hu⟩,by simp;omega,Xj Y (Xl by10) by6,by5⟩)
    | (have hx:unesc d.toNat=some d.toNat:=by unfold unesc;rw [if_neg (by clear hu;omega),if_neg (by clear hu;omega),if_pos (by clear hu;omega)]
       rw [hx] at hu
       simp only [] at hu
       rw [Yx (k':=i+1+1 - (at_+1)) by18] at hu
       exact ⟨(i+1+1,acc++[d.toNat],u50),⟨by omega,by omega,by simp;omega,hu⟩,by simp;omega,Xj Y (Xl by10) by6,by5⟩)
   refine QaP ?_
   refine QaI ?_
   refine Qf ?_
   refine Qal ?_
   refine Qb6 ?_
   refine Qj ?_;intro c36 h36
   refine Qa ?_
   obtain ⟨rfl,g36⟩|⟨rfl,g36⟩:=Za h36
   ·refine Q7 ?_
    obtain ⟨d,hd,hrd,hdl⟩:=Yu (s:=s) (i:=i+1) by18
    have hE:=tx_esc d.toNat (rst s (i+1+1))
    have hr2:rst s i=92::d.toNat::rst s (i+1+1):=by rw [hr,hrd,show b.toNat=92 by omega]
    rw [hr2,hE] at hu
    refine QF ?_
    refine Zb 39 Y Y Y (Yj (i:=i+1) Y tu_9 Y Y by12 (hd) ?_)
    refine Qcs ?_
    refine Zb 41 Y Y Y (Zl (xs:=[.const (.string ⟨#[110,116,34,92]⟩),.tmp 40]) Y Y (HI _) by3 ?_);intro c41 h41
    refine Qaj ?_;intro c42 h42
    try replace h42:=nott h42 h41
    refine Qa ?_
    obtain ⟨rfl,g42⟩|⟨rfl,g42⟩:=Za h42
    ·refine QbT ?_
     have hmem:d.toNat=110∨d.toNat=116∨d.toNat=34∨d.toNat=92:=by clear hu hE hr2 hrd hd hr hb HI;simp_all;clear h41;omega
     refine Qe ?_
     refine Qj ?_;intro c44 h44
     refine Qa ?_
     obtain ⟨rfl,g44⟩|⟨rfl,g44⟩:=Za h44
     ·refine QY ?_
      refine Qj ?_;intro c46 h46
      refine Qa ?_
      obtain ⟨rfl,g46⟩|⟨rfl,g46⟩:=Za h46
      ·refine QN ?_
       refine QF ?_
       refine Qdg ?_
       refine Qdh ?_
       intro u50
       refine Qaz ?_
       first
       |(exfalso;clear hu;omega)
       | (have hm:=tx_more (rst s (i+1)) (c:=b.toNat) (by clear hu;omega) (by clear hu;omega) (by clear hu;omega)
          rw [hr,hm,Yx (k':=i+1 - (at_+1)) by18] at hu
          exact ⟨(i+1,acc++[b.toNat],u50),⟨by omega,by omega,by simp;omega,hu⟩,by simp;omega,Xj Y (Xl by10) by6,by5⟩)
       | (have hx:unesc d.toNat=some 10:=by rw [show d.toNat=110 by clear hu;omega];rfl
          rw [hx] at hu
          simp only [] at hu
          rw [Yx (k':=i+1+1 - (at_+1)) by18] at hu
          exact ⟨(i+1+1,acc++[10],u50),⟨by omega,by omega,by simp;omega,hu⟩,by simp;omega,Xj Y (Xl by10) by6,by5⟩)
       | (have hx:unesc d.toNat=some 9:=by rw [show d.toNat=116 by clear hu;omega];rfl
          rw [hx] at hu
          simp only [] at hu
          rw [Yx (k':=i+1+1 - (at_+1)) by18] at hu
          exact ⟨(i+1+1,acc++[9],u50),⟨by omega,by omega,by simp;omega,hu⟩,by simp;omega,Xj Y (Xl by10) by6,by5⟩)
       | (have hx:unesc d.toNat=some d.toNat:=by unfold unesc;rw [if_neg (by clear hu;omega),if_neg (by clear hu;omega),if_pos (by clear hu;omega)]
          rw [hx] at hu
          simp only [] at hu
          rw [Yx (k':=i+1+1 - (at_+1)) by18] at hu
          exact ⟨(i+1+1,acc++[d.toNat],u50),⟨by omega,by omega,by simp;omega,hu⟩,by simp;omega,Xj Y (Xl by10) by6,by5⟩)
      refine Qh ?_
      refine Qi ?_
      refine Qf ?_
      refine QF ?_
      refine Qdg ?_
      refine Qdh ?_
      intro u50
      refine Qaz ?_
      first
      |(exfalso;clear hu;omega)
      | (have hm:=tx_more (rst s (i+1)) (c:=b.toNat) (by clear hu;omega) (by clear hu;omega) (by clear hu;omega)
         rw [hr,hm,Yx (k':=i+1 - (at_+1)) by18] at hu
         exact ⟨(i+1,acc++[b.toNat],u50),⟨by omega,by omega,by simp;omega,hu⟩,by simp;omega,Xj Y (Xl by10) by6,by5⟩)
      | (have hx:unesc d.toNat=some 10:=by rw [show d.toNat=110 by clear hu;omega];rfl
         rw [hx] at hu
         simp only [] at hu
         rw [Yx (k':=i+1+1 - (at_+1)) by18] at hu
         exact ⟨(i+1+1,acc++[10],u50),⟨by omega,by omega,by simp;omega,hu⟩,by simp;omega,Xj Y (Xl by10) by6,by5⟩)
      | (have hx:unesc d.toNat=some 9:=by rw [show d.toNat=116 by clear hu;omega];rfl
         rw [hx] at hu
         simp only [] at hu
         rw [Yx (k':=i+1+1 - (at_+1)) by18] at hu
         exact ⟨(i+1+1,acc++[9],u50),⟨by omega,by omega,by simp;omega,hu⟩,by simp;omega,Xj Y (Xl by10) by6,by5⟩)
      | (have hx:unesc d.toNat=some d.toNat:=by unfold unesc;rw [if_neg (by clear hu;omega),if_neg (by clear hu;omega),if_pos (by clear hu;omega)]
         rw [hx] at hu
         simp only [] at hu
         rw [Yx (k':=i+1+1 - (at_+1)) by18] at hu
         exact ⟨(i+1+1,acc++[d.toNat],u50),⟨by omega,by omega,by simp;omega,hu⟩,by simp;omega,Xj Y (Xl by10) by6,by5⟩)
     refine Qh ?_
     refine Qi ?_
     refine QaR ?_
     refine Qj ?_;intro c46 h46
     refine Qa ?_
     obtain ⟨rfl,g46⟩|⟨rfl,g46⟩:=Za h46
     ·refine QN ?_
      refine QF ?_
      refine Qdg ?_
      refine Qdh ?_
      intro u50
      refine Qaz ?_
      first
      |(exfalso;clear hu;omega)
      | (have hm:=tx_more (rst s (i+1)) (c:=b.toNat) (by clear hu;omega) (by clear hu;omega) (by clear hu;omega)
         rw [hr,hm,Yx (k':=i+1 - (at_+1)) by18] at hu
         exact ⟨(i+1,acc++[b.toNat],u50),⟨by omega,by omega,by simp;omega,hu⟩,by simp;omega,Xj Y (Xl by10) by6,by5⟩)
      | (have hx:unesc d.toNat=some 10:=by rw [show d.toNat=110 by clear hu;omega];rfl
         rw [hx] at hu
         simp only [] at hu
         rw [Yx (k':=i+1+1 - (at_+1)) by18] at hu
         exact ⟨(i+1+1,acc++[10],u50),⟨by omega,by omega,by simp;omega,hu⟩,by simp;omega,Xj Y (Xl by10) by6,by5⟩)
      | (have hx:unesc d.toNat=some 9:=by rw [show d.toNat=116 by clear hu;omega];rfl
         rw [hx] at hu
         simp only [] at hu
         rw [Yx (k':=i+1+1 - (at_+1)) by18] at hu
         exact ⟨(i+1+1,acc++[9],u50),⟨by omega,by omega,by simp;omega,hu⟩,by simp;omega,Xj Y (Xl by10) by6,by5⟩)
      | (have hx:unesc d.toNat=some d.toNat:=by unfold unesc;rw [if_neg (by clear hu;omega),if_neg (by clear hu;omega),if_pos (by clear hu;omega)]
         rw [hx] at hu
         simp only [] at hu
         rw [Yx (k':=i+1+1 - (at_+1)) by18] at hu
         exact ⟨(i+1+1,acc++[d.toNat],u50),⟨by omega,by omega,by simp;omega,hu⟩,by simp;omega,Xj Y (Xl by10) by6,by5⟩)
     refine Qh ?_
     refine Qi ?_
     refine Qf ?_
     refine QF ?_
     refine Qdg ?_
     refine Qdh ?_
     intro u50
     refine Qaz ?_
     first
     |(exfalso;clear hu;omega)
     | (have hm:=tx_more (rst s (i+1)) (c:=b.toNat) (by clear hu;omega) (by clear hu;omega) (by clear hu;omega)
        rw [hr,hm,Yx (k':=i+1 - (at_+1)) by18] at hu
        exact ⟨(i+1,acc++[b.toNat],u50),⟨by omega,by omega,by simp;omega,hu⟩,by simp;omega,Xj Y (Xl by10) by6,by5⟩)
     | (have hx:unesc d.toNat=some 10:=by rw [show d.toNat=110 by clear hu;omega];rfl
        rw [hx] at hu
        simp only [] at hu
        rw [Yx (k':=i+1+1 - (at_+1)) by18] at hu
        exact ⟨(i+1+1,acc++[10],u50),⟨by omega,by omega,by simp;omega,hu⟩,by simp;omega,Xj Y (Xl by10) by6,by5⟩)
     | (have hx:unesc d.toNat=some 9:=by rw [show d.toNat=116 by clear hu;omega];rfl
        rw [hx] at hu
        simp only [] at hu
        rw [Yx (k':=i+1+1 - (at_+1)) by18] at hu
        exact ⟨(i+1+1,acc++[9],u50),⟨by omega,by omega,by simp;omega,hu⟩,by simp;omega,Xj Y (Xl by10) by6,by5⟩)
     | (have hx:unesc d.toNat=some d.toNat:=by unfold unesc;rw [if_neg (by clear hu;omega),if_neg (by clear hu;omega),if_pos (by clear hu;omega)]
        rw [hx] at hu
        simp only [] at hu
        rw [Yx (k':=i+1+1 - (at_+1)) by18] at hu
        exact ⟨(i+1+1,acc++[d.toNat],u50),⟨by omega,by omega,by simp;omega,hu⟩,by simp;omega,Xj Y (Xl by10) by6,by5⟩)
    refine Qag ?_
    refine Qct ?_
    refine out_ttt Y Y Y Y (Xg _) by5 ⟨?_,Y⟩
    have hn:unesc d.toNat=none:=by unfold unesc;simp_all
    rw [hu,hn];rfl
   refine Qag ?_
   refine Qct ?_
   refine out_ttt Y Y Y Y (Xg _) by5 ⟨?_,Y⟩
   rw [hu,hr,show b.toNat=92 by omega,rst_nil by18,tx_esc0];rfl
  refine Qag ?_
  refine Qct ?_
  refine out_ttt Y Y Y Y (Xg _) by5 ⟨?_,Y⟩
  rw [hu,hr,show b.toNat=10 by omega,tx_10];rfl
 refine QaP ?_
 refine Zb 24 Y Y Y (op_bytestra (xs:=zi acc) Y tu_151 tu_5 tu_9 Y (.own _ 1 _) ?_)
 refine Qb ?_
 refine QaI ?_
 refine Qct ?_
 refine out_ttt Y Y Y Y (Xg _) by5 ⟨?_,Y⟩
 rw [hu,hr,show b.toNat=34 by omega,tx_end]
 simp [txR,strN,zi];omega
theorem u64w (x:Int):IntKind.u64.wrap x=x % 18446744073709551616:=by
 unfold IntKind.wrap
 simp [IntKind.bits,IntKind.signed]
theorem u8w (x:Int):IntKind.u8.wrap x=x % 256:=by
 unfold IntKind.wrap
 simp [IntKind.bits,IntKind.signed]
theorem SignedA_c (u:Int) (neg:Bool) (h1:0≤u) (h2:u≤9223372036854775807):PCall Tryz.prog 105 [.val (.int .u64 u),.val (.bool neg)] (.val (.int .i64 (W63 (sgn u neg)))) :=
 PCall.of_calls (vs:=[.int .u64 u,.bool neg]) (enters_of Tryz.func105 (by kernel_rfl) rfl) (fun w=>(Signed_c u neg w h1 h2).mono (by rintro e w' ⟨rfl,rfl⟩;exact ⟨rfl,Below.refl _ _⟩))
def parR:Option Nat→AV
 | none=>.tup [.val (.int .i64 0),.val (.int .i64 3)]
 | some n=>.tup [.val (.int .i64 n),.val (.int .i64 0)]
theorem parL_none {l:List Nat} (h:valO 0 l=none):parL l=none:=by unfold parL;rw [h]
theorem parL_half {l:List Nat} (h:valO 0 l=some 4611686018427387904):parL l=none:=by unfold parL;rw [h];rfl
theorem parL_some {l:List Nat} {n:Nat} (h:valO 0 l=some n) (hn:n≠4611686018427387904):parL l=some n:=by unfold parL;rw [h];simp only [if_neg hn]
theorem rParse_c (s:ByteArray) (hs:s.size≤60000) (h0:0<s.size) (hd:∀ (i:Nat) (b:UInt8),s[i]?=some b→48≤b.toNat∧b.toNat≤57) (hz:∀ b:UInt8,s[0]?=some b→b.toNat=48→s.size=1):PCall Tryz.prog 91 [.val (.string s)] (parR (parL (rst s 0))):=by
 obtain ⟨z,hz0,_,_⟩:=Yu h0
 have hz1:=hz z hz0
 have hz2:=hd 0 z hz0
 have HS:=SignedA_c
 refine Zc Tryz.func91 Y (by kernel_rfl) Y (Xm Y) ?_
 refine Qn ?_
 refine Qav ?_
 refine QG ?_
 refine Zx 4 (False) ?_ _ _ Y ?_
 ·skip
  refine Qb ?_
  refine Qb6 ?_
  refine Q0 ?_;intro c11 h11
  refine Qb ?_
  obtain ⟨rfl,g11⟩|⟨rfl,g11⟩:=Za h11
  ·skip
   refine QaL ?_
   refine QM ?_
   refine Xk Y ?_ by7 by5
   simp_all;done
  skip
  refine Qd ?_
  refine QeX ?_
  refine Qan ?_;intro c15 h15
  refine QM ?_
  refine Xk Y ?_ by7 by5
  simp_all;omega
 intro c4 h4
 refine Qc ?_
 refine QK ?_
 refine Qw ?_
 refine Qa ?_
 obtain ⟨rfl,g4⟩|⟨rfl,g4⟩:=Za h4
 ·refine QbT ?_
  refine Zx 37 (False) ?_ _ _ Y ?_
  ·skip
   refine QaA ?_
   refine Qb6 ?_
   refine Qj ?_;intro c21 h21
   refine Qb ?_
   obtain ⟨rfl,g21⟩|⟨rfl,g21⟩:=Za h21
   ·skip
    refine Qch ?_
    refine QeX ?_
    refine Qan ?_;intro c26 h26
    refine Qd ?_
    obtain ⟨rfl,g26⟩|⟨rfl,g26⟩:=Za h26
    ·skip
     refine Qck ?_
     refine QcY ?_
     refine Qbw ?_
     refine Qg ?_
     refine Xk Y ?_ by7 by5
     clear HS;first|(simp_all;done)|(simp_all;omega)|grind
    skip
    refine Qd ?_
    refine QdF ?_
    refine Qd ?_
    refine QeW ?_
    refine QcJ ?_;intro c32 h32
    refine Qd ?_
    obtain ⟨rfl,g32⟩|⟨rfl,g32⟩:=Za h32
    ·skip
     refine Qd ?_
     refine Qbe ?_
     refine Xk Y ?_ by7 by5
     clear HS;first|(simp_all;done)|(simp_all;omega)|grind
    skip
    refine QZ ?_
    refine Qbe ?_
    refine Xk Y ?_ by7 by5
    clear HS;first|(simp_all;done)|(simp_all;omega)|grind
   skip
   refine Qa9 ?_
   refine Qa8 ?_
   refine Qa8 ?_
   refine QZ ?_
   refine Qg ?_
   refine Xk Y ?_ by7 by5
   clear HS;first|(simp_all;done)|(simp_all;omega)|grind
  intro c37 h37
  refine Qc ?_
  obtain ⟨rfl,g37⟩|⟨rfl,g37⟩:=Za h37
  ·refine QaB ?_
   refine Qf ?_
   refine Qam ?_
   apply Zy (rg [(1,3),(6,1),(9,46)]) (σ:=Nat) (fun zz=>match zz with|i=>[(6,.val (.int .i64 i))]) (fun zz=>match zz with|i=>i≤s.size) (fun zz=>match zz with|i=>s.size - i) (0)
   ·repeat' (first|exact Xp|apply Xn rfl|apply Xo rfl)
   ·exact Nat.zero_le _
   ·exact by6
   rintro i hI
   try dsimp only [List.cons_append,List.nil_append] at hI ⊢
   refine Qal ?_
   refine QbW ?_;intro c42 h42
   refine Qa ?_
   obtain ⟨rfl,g42⟩|⟨rfl,g42⟩:=Za h42
   ·refine QaE ?_
    refine QK ?_
    refine Qw ?_
    refine Qf ?_
    refine Qam ?_
    apply Zy (rg [(1,3),(5,67)]) (σ:=Nat × Nat) (fun zz=>match zz with|(j,n)=>[(7,.val (.int .u64 n)),(8,.val (.int .i64 j))]) (fun zz=>match zz with|(j,n)=>j≤s.size∧n≤4611686018427387904∧valO 0 (rst s 0)=valO n (rst s j)) (fun zz=>match zz with|(j,n)=>s.size - j) ((0,0))
    ·repeat' (first|exact Xp|apply Xn rfl|apply Xo rfl)
    ·exact ⟨Nat.zero_le _,by omega,Y⟩
    ·exact by6
    rintro ⟨j,n⟩ hI
    try dsimp only [List.cons_append,List.nil_append] at hI ⊢
    obtain ⟨hj,hn,hu⟩:=hI
    refine Qal ?_
    refine QbW ?_;intro c59 h59
    refine Qa ?_
    obtain ⟨rfl,g59⟩|⟨rfl,g59⟩:=Za h59
    ·refine Qbp ?_
     refine Zx 77 (n=4611686018427387904) ?_ _ _ Y ?_
     ·skip
      refine QbV ?_;intro c73 h73
      refine Qb ?_
      obtain ⟨rfl,g73⟩|⟨rfl,g73⟩:=Za h73
      ·skip
       refine Qai ?_
       refine Xk Y ?_ by7 by5
       simp_all;omega
      skip
      refine Qd ?_
      refine Qa5 ?_;intro c76 h76
      try replace h76:=nott h76 h16
      refine Qg ?_
      refine Xk Y ?_ by7 by5
      simp_all;omega
     intro c77 h77
     refine Qc ?_
     obtain ⟨rfl,g77⟩|⟨rfl,g77⟩:=Za h77
     ·refine QN ?_
      refine QP ?_
      refine Zb 80 Y Y Y (Ze (xs:=[.tmp 78,.tmp 79]) Y Y (HS n false by18 by18) by3 ?_)
      refine Qbv ?_
      refine out_tt Y Y Y (Xg _) by5 ⟨?_,Y⟩
      rw [rst_nil (s:=s) (i:=j) by18,valO] at hu
      rw [parL_some hu g77,sgn,W63_id _ (by first|(simp;done)|(simp;omega)) (by first|(simp;done)|(simp;omega))];rfl
     refine Qag ?_
     refine Qbv ?_
     refine out_tt Y Y Y (Xg _) by5 ⟨?_,Y⟩
     rw [rst_nil (s:=s) (i:=j) by18,valO,g77] at hu
     rw [parL_half hu];rfl
    refine Qx ?_
    obtain ⟨b,hb,hr,_⟩:=Yu (s:=s) (i:=j) by18
    have hbd:=hd j b hb
    rw [hr,valO] at hu
    have hw:IntKind.u64.wrap (IntKind.u64.wrap (10 * (n:Int))+IntKind.u64.wrap (IntKind.u8.wrap ((b.toNat:Int) - 48)))=(((10 * n+(b.toNat - 48)) % 18446744073709551616:Nat):Int):=by
     rw [u64w,u64w,u64w,u8w];omega
    refine Qe ?_
    refine Zb 63 Y Y Y (op_mul Y Y Y Y ?_)
    refine QaA ?_
    refine QcS ?_
    refine Zb 67 Y Y Y (op_sub Y Y Y Y (Zb 68 Y Y Y (op_convert Y tu_5 tu_150 Y Y (Zb 69 Y Y Y (op_add Y Y Y Y ?_)))))
    refine QaR ?_
    refine Q0 ?_;intro c71 h71
    refine Qa ?_
    obtain ⟨rfl,g71⟩|⟨rfl,g71⟩:=Za h71
    ·refine Q8 ?_
     rw [hw] at g71
     rw [if_neg by18] at hu
     exact ⟨(j+1,(10 * n+(b.toNat - 48)) % 18446744073709551616),⟨by omega,by omega,hu⟩,by simp;omega,Xj Y (Le.inteq hw) by6,by5⟩
    refine Qag ?_
    refine Qbv ?_
    refine out_tt Y Y Y (Xg _) by5 ⟨?_,Y⟩
    rw [hw] at g71
    rw [if_pos by18] at hu
    rw [parL_none hu];rfl
   refine Qx ?_
   obtain ⟨b,hb,_,_⟩:=Yu (s:=s) (i:=i) by18
   have hbd:=hd i b hb
   refine Zx 54 (False) ?_ _ _ Y ?_
   ·skip
    refine QaA ?_
    refine QcS ?_
    refine Qk ?_;intro c48 h48
    refine Qb ?_
    obtain ⟨rfl,g48⟩|⟨rfl,g48⟩:=Za h48
    ·skip
     refine Qch ?_
     refine Zm 52 Y Y Y Y Y (Yj Y tu_9 Y Y Y (hb) ?_)
     refine QcJ ?_;intro c53 h53
     refine Qg ?_
     refine Xk Y ?_ by7 by5
     simp_all;omega
    skip
    refine Qm ?_
    refine Qg ?_
    refine Xk Y ?_ by7 by5
    simp_all;omega
   intro c54 h54
   refine Qc ?_
   obtain ⟨rfl,g54⟩|⟨rfl,g54⟩:=Za h54
   ·refine Q8 ?_
    exact ⟨i+1,(by show i+1≤s.size;omega),by simp;omega,by6,by5⟩
   exact g54.elim
  exact g37.elim
 exact g4.elim
theorem Zt {P:Program} {fn:Func} {R:AV→Mem→Prop} {al:Sl} {M M':Mem} {t1 t2 t T b s i:Nat} {cs:List AV} {v v2 v':AV} (hr:fn.results=#[.cell t T,.tmp t1,.tmp t2]) (h1:al.lookup t1=some v) (h2:al.lookup t2=some v2) (hv:al.lookup t=some (.ptr b 0)) (hm0:M[i]?=some (.loc b cs)) (ht:tyAgg P T=some (some s)) (hs:cs.length=s) (hl:Le (.tup [.agg cs,v,v2]) v') (hm:MLe M M') (h:R v' M'):Out P fn R .ret al M :=
 ⟨[.agg cs,v,v2],v',M',by rw [hr];exact .cons ⟨b,0,i,cs,hv,hm0,.inl ⟨s,ht,by rw [List.drop_zero,← hs,List.take_length],by omega⟩⟩ (.cons h1 (.cons h2 .nil)),hl,hm,h⟩
def Tok.av (t:Tok):List AV:=[.val (.int .i64 t.k),.val (.string t.t),.val (.int .i64 t.n),.val (.int .i64 t.a)]
def oneR (o:Tok × Int × Int):AV:=.tup [.agg o.1.av,.val (.int .i64 o.2.1),.val (.int .i64 o.2.2)]
theorem one_text (s:ByteArray) (hs:s.size≤60000) (at_:Nat) (ha:at_<s.size) (b:UInt8) (hb:s[at_]?=some b) (hq:b.toNat=34):PCall Tryz.prog 70 [.val (.string s),.val (.int .i64 at_)] (oneR (oneL at_ (b.toNat::rst s (at_+1)))):=by
 have HT:=text_c s hs at_ ha
 have hO:oneL at_ (b.toNat::rst s (at_+1))=match txL (rst s (at_+1)) with
     | none=>(tok0 at_,0,103)
     | some x=>(⟨4,strN x.1,0,at_⟩,at_+1+x.2,0):=by (rw [oneL,if_pos hq]) <;>(cases txL (rst s (at_+1)) <;> rfl)
 rw [hO]
 cases hx:txL (rst s (at_+1)) with
 | none =>
  rw [hx] at HT
  simp only [txR] at HT
  refine Qdi ?_
  refine Qn ?_
  refine Qz ?_;intro b4
  refine Qav ?_
  refine QP ?_
  refine QcS ?_
  refine QaR ?_
  refine Qdj ?_
  refine Qz ?_;intro b8
  refine QbX ?_
  refine Qj ?_;intro c23 h23
  refine Qa ?_
  obtain ⟨rfl,g23⟩|⟨rfl,g23⟩:=Za h23
  ·omega
  refine Qh ?_
  refine QP ?_
  refine Zb 27 Y Y Y (Ze (xs:=[.tmp 25,.tmp 26]) Y Y (HT) by3 ?_)
  refine Qbf ?_
  refine Qb2 ?_
  refine Qa3 ?_
  refine Qcu ?_
  refine Qaj ?_;intro c32 h32
  try replace h32:=nott h32 h30
  refine Qa ?_
  obtain ⟨rfl,g32⟩|⟨rfl,g32⟩:=Za h32
  ·simp_all
  refine Qag ?_
  refine QbH ?_
  refine Qb3 ?_
  refine Qbv ?_
  first|exact Zt (i:=1) rfl rfl rfl rfl rfl Yd rfl (Xg _) by5 ⟨rfl,rfl⟩|exact Zt (i:=0) rfl rfl rfl rfl rfl Yd rfl (Xg _) by5 ⟨rfl,rfl⟩
 | some r =>
  rw [hx] at HT
  simp only [txR] at HT
  refine Qdi ?_
  refine Qn ?_
  refine Qz ?_;intro b4
  refine Qav ?_
  refine QP ?_
  refine QcS ?_
  refine QaR ?_
  refine Qdj ?_
  refine Qz ?_;intro b8
  refine QbX ?_
  refine Qj ?_;intro c23 h23
  refine Qa ?_
  obtain ⟨rfl,g23⟩|⟨rfl,g23⟩:=Za h23
  ·omega
  refine Qh ?_
  refine QP ?_
  refine Zb 27 Y Y Y (Ze (xs:=[.tmp 25,.tmp 26]) Y Y (HT) by3 ?_)
  refine Qbf ?_
  refine Qb2 ?_
  refine Qa3 ?_
  refine Qcu ?_
  refine Qaj ?_;intro c32 h32
  try replace h32:=nott h32 h30
  refine Qa ?_
  obtain ⟨rfl,g32⟩|⟨rfl,g32⟩:=Za h32
  ·refine QN ?_
   refine Qat ?_
   refine Qdu ?_
   refine Qt ?_
   refine Qu ?_
   refine Qd5 ?_
   refine QbY ?_
   first|exact Zt (i:=1) rfl rfl rfl rfl rfl Yd rfl (Xg _) by5 ⟨rfl,rfl⟩|exact Zt (i:=0) rfl rfl rfl rfl rfl Yd rfl (Xg _) by5 ⟨rfl,rfl⟩
  simp_all
def nameO (a:Int) (c k:Nat) (w:ByteArray):Tok × Int × Int:=if 40<k then (⟨0,w,0,a⟩,0,104) else (⟨kindT c w,w,0,a⟩,a+k,0)
theorem oneL_A {a:Int} {c:Nat} {r:List Nat} (h1:c≠34) (h2:¬ digitC c=true) (h3:smallC c=true∨greatC c=true):oneL a (c::r)=nameO a c (run 1 (c::r)) (strN ((c::r).take (run 1 (c::r)))):=by
 rw [oneL,if_neg h1,if_neg h2]
 simp only [if_pos h3]
 rw [if_neg (by rintro ⟨q,_⟩;exact q (h3.elim .inl fun x=>.inr (.inl x)))];rfl
theorem oneL_B {a:Int} {c:Nat} {r:List Nat} (h1:c≠34) (h2:¬ digitC c=true) (h3:¬ (smallC c=true∨greatC c=true)) (h4:signC c=true):oneL a (c::r)=nameO a c (run 3 (c::r)) (strN ((c::r).take (run 3 (c::r)))):=by
 rw [oneL,if_neg h1,if_neg h2]
 simp only [if_neg h3,if_pos h4]
 rw [if_neg (by rintro ⟨q,_⟩;exact q (.inr (.inr h4)))];rfl
theorem oneL_C {a:Int} {c:Nat} {r:List Nat} (h1:c≠34) (h2:¬ digitC c=true) (h3:¬ (smallC c=true∨greatC c=true)) (h4:¬ signC c=true):oneL a (c::r)=if markT (strN ((c::r).take 1))=false then (tok0 a,0,101) else nameO a c 1 (strN ((c::r).take 1)):=by
 rw [oneL,if_neg h1,if_neg h2]
 simp only [if_neg h3,if_neg h4]
 by_cases q:markT (strN ((c::r).take 1))=false
 ·rw [if_pos ⟨by rintro (x|x|x);exact h3 (.inl x);exact h3 (.inr x);exact h4 x,q⟩,if_pos q]
 rw [if_neg (fun x=>q x.2),if_neg q];rfl
theorem run_pos {k c:Nat} {l:List Nat} (h:kindC k c=true):1≤run k (c::l):=by rw [run,if_pos h];omega
theorem one_N (s:ByteArray) (hs:s.size≤60000) (at_:Nat) (ha:at_<s.size) (b:UInt8) (hb:s[at_]?=some b) (h1:b.toNat≠34) (h2:¬ digitC b.toNat=true):PCall Tryz.prog 70 [.val (.string s),.val (.int .i64 at_)] (oneR (oneL at_ (rst s at_))):=by
 obtain ⟨b',hb',hr,_⟩:=Yu ha
 obtain rfl:b'=b:=by rw [hb] at hb';cases hb';rfl
 have HE1:=end_c s hs at_ 1 by18 by18 by18
 have HE3:=end_c s hs at_ 3 by18 by18 by18
 have HD:=digit_c
 have HSm:=small_c
 have HG:=great_c
 have HS:=sign_c
 have HM:=Mark_c
 have HKy:=Key_c
 have hcut:=fun k=>rst_cut s at_ (at_+k)
 simp only [Nat.add_sub_cancel_left] at hcut
 have hA:(smallC b'.toNat=true∨greatC b'.toNat=true)→oneL at_ (rst s at_)=nameO at_ b'.toNat (run 1 (rst s at_)) (s.extract at_ (at_+run 1 (rst s at_)))∧1≤run 1 (rst s at_):=fun hc=>by rw [hcut,hr];exact ⟨oneL_A h1 h2 hc,run_pos (by show nameC _=true;unfold nameC;rcases hc with hc|hc <;> rw [hc] <;> simp)⟩
 have hB:¬ (smallC b'.toNat=true∨greatC b'.toNat=true)→signC b'.toNat=true→oneL at_ (rst s at_)=nameO at_ b'.toNat (run 3 (rst s at_)) (s.extract at_ (at_+run 3 (rst s at_)))∧1≤run 3 (rst s at_):=fun hc hd=>by rw [hcut,hr];exact ⟨oneL_B h1 h2 hc hd,run_pos hd⟩
 have hC:¬ (smallC b'.toNat=true∨greatC b'.toNat=true)→¬ signC b'.toNat=true→oneL at_ (rst s at_)=if markT (s.extract at_ (at_+1))=false then (tok0 at_,0,101) else nameO at_ b'.toNat 1 (s.extract at_ (at_+1)):=fun hc hd=>by rw [hcut,hr];exact oneL_C h1 h2 hc hd
 have hle1:=run_le 1 (rst s at_)
 have hle3:=run_le 3 (rst s at_)
 rw [rst_len] at hle1 hle3
 generalize oneL at_ (rst s at_)=O at *
 generalize run 1 (rst s at_)=k1 at *
 generalize run 3 (rst s at_)=k3 at *
 refine Qdi ?_
 refine Qn ?_
 refine Qz ?_;intro b4
 refine Qav ?_
 refine QP ?_
 refine Qd6 ?_
 refine QaR ?_
 refine Qdj ?_
 refine Qz ?_;intro b8
 refine QbX ?_
 refine Qj ?_;intro c23 h23
 refine Qa ?_
 obtain ⟨rfl,g23⟩|⟨rfl,g23⟩:=Za h23
 ·refine QaB ?_
  refine Zb 40 Y Y Y (Zl (xs:=[.tmp 39]) Y Y (HD _) by3 ?_);intro c40 h40
  refine Qa ?_
  obtain ⟨rfl,g40⟩|⟨rfl,g40⟩:=Za h40
  ·refine QY ?_
   refine QaI ?_
   refine Qba ?_
   refine Zx 85 (smallC b'.toNat=true∨greatC b'.toNat=true) ?_ _ _ Y ?_
   ·skip
    refine Qb ?_
    refine Zb 81 Y Y Y (Zl (xs:=[.tmp 80]) Y Y (HSm _) by3 ?_);intro c81 h81
    refine Qb ?_
    obtain ⟨rfl,g81⟩|⟨rfl,g81⟩:=Za h81
    ·skip
     refine Qd ?_
     refine Zm 84 Y Y Y Y Y (Zl (xs:=[.tmp 83]) Y Y (HG _) by3 ?_);intro c84 h84
     refine Qg ?_
     refine Xk Y ?_ by7 by5
     simp_all;done
    skip
    refine Qai ?_
    refine Xk Y ?_ by7 by5
    simp_all;done
   intro c85 h85
   refine Qc ?_
   apply c_joinkm (rg [(2,2),(5,2),(9,63),(73,28)]) (σ:=Nat) (fun zz=>match zz with|k=>[(16,.val (.int .i64 (at_+k)))]) (fun zz=>match zz with|k=>1≤k∧at_+k≤s.size∧O=nameO at_ b'.toNat k (s.extract at_ (at_+k)))
   ·repeat' (first|exact Xp|apply Xn rfl|apply Xo rfl)
   ·skip
    obtain ⟨rfl,g85⟩|⟨rfl,g85⟩:=Za h85
    ·refine QH ?_
     refine QJ ?_
     refine Zb 90 Y Y Y (Zl (xs:=[.tmp 89]) Y Y (HS _) by3 ?_);intro c90 h90
     refine Qa ?_
     obtain ⟨rfl,g90⟩|⟨rfl,g90⟩:=Za h90
     ·refine QH ?_
      refine QP ?_
      refine Qb ?_
      refine Zb 97 rfl rfl rfl (op_substr rfl tu_9 rfl rfl rfl (i:=at_) (j:=at_+1) rfl by18 by18 by18 ?_)
      refine Zb 98 Y Y Y (Zl (xs:=[.tmp 97]) Y Y (HM _) by3 ?_);intro c98 h98
      refine Qaj ?_;intro c99 h99
      try replace h99:=nott h99 h98
      refine Qa ?_
      obtain ⟨rfl,g99⟩|⟨rfl,g99⟩:=Za h99
      ·refine Qbx ?_
       first|exact ⟨k1,⟨(hA g85).2,by omega,(hA g85).1⟩,by6,by5⟩|exact ⟨k3,⟨(hB g85 g90).2,by omega,(hB g85 g90).1⟩,by6,by5⟩|exact ⟨1,⟨by omega,by omega,by rw [hC g85 g90,if_neg (by simpa using g99)]⟩,by6,by5⟩
      refine Qag ?_
      refine QbH ?_
      refine Qb3 ?_
      refine Qav ?_
      refine c_retj ?_
      first|refine Zt (i:=1) Y Y Y Y Y Yd Y (Xg _) by5 ⟨?_,Y⟩|refine Zt (i:=0) Y Y Y Y Y Yd Y (Xg _) by5 ⟨?_,Y⟩
      rw [hC g85 g90,if_pos (by simpa using g99)];rfl
     refine Qh ?_
     refine QF ?_
     refine Zb 93 Y Y Y (Ze (xs:=[.tmp 91,.tmp 92,.const (.int .i64 3)]) Y Y (HE3) by3 ?_)
     refine Qap ?_
     first|exact ⟨k1,⟨(hA g85).2,by omega,(hA g85).1⟩,by6,by5⟩|exact ⟨k3,⟨(hB g85 g90).2,by omega,(hB g85 g90).1⟩,by6,by5⟩|exact ⟨1,⟨by omega,by omega,by rw [hC g85 g90,if_neg (by simpa using g99)]⟩,by6,by5⟩
    refine Qh ?_
    refine QF ?_
    refine Zb 88 Y Y Y (Ze (xs:=[.tmp 86,.tmp 87,.const (.int .i64 1)]) Y Y (HE1) by3 ?_)
    refine Qap ?_
    first|exact ⟨k1,⟨(hA g85).2,by omega,(hA g85).1⟩,by6,by5⟩|exact ⟨k3,⟨(hB g85 g90).2,by omega,(hB g85 g90).1⟩,by6,by5⟩|exact ⟨1,⟨by omega,by omega,by rw [hC g85 g90,if_neg (by simpa using g99)]⟩,by6,by5⟩
   rintro k hI
   try dsimp only [List.cons_append,List.nil_append] at hI ⊢
   obtain ⟨hk1,hk2,hO⟩:=hI
   have hsz:(s.extract at_ (at_+k)).size=k:=by simp [ByteArray.size_extract];omega
   generalize hw:s.extract at_ (at_+k)=w at *
   refine Qc ?_
   refine QP ?_
   refine Qb ?_
   refine Zb 104 rfl rfl rfl (op_substr rfl tu_9 rfl rfl rfl (i:=at_) (j:=at_+k) rfl rfl by18 by18 ?_)
   refine Qu ?_
   refine Qd5 ?_
   refine Qa ?_
   refine QL ?_
   rw [hw]
   refine QaX ?_
   refine QcE ?_
   refine Qb6 ?_
   refine Q0 ?_;intro c109 h109
   refine Qa ?_
   obtain ⟨rfl,g109⟩|⟨rfl,g109⟩:=Za h109
   ·refine QN ?_
    refine Qat ?_
    refine Qdu ?_
    refine Q2 ?_
    refine Zb 113 Y Y Y (Zl (xs:=[.tmp 112]) Y Y (HG _) by3 ?_);intro c113 h113
    refine Qa ?_
    obtain ⟨rfl,g113⟩|⟨rfl,g113⟩:=Za h113
    ·refine QaB ?_
     refine Zb 116 Y Y Y (Zl (xs:=[.tmp 115]) Y Y (HS _) by3 ?_);intro c116 h116
     refine Qa ?_
     obtain ⟨rfl,g116⟩|⟨rfl,g116⟩:=Za h116
     ·refine Qcv ?_
      refine Zb 120 Y Y Y (Zl (xs:=[.tmp 119]) Y Y (HKy _) by3 ?_);intro c120 h120
      refine Qa ?_
      obtain ⟨rfl,g120⟩|⟨rfl,g120⟩:=Za h120
      ·refine Qcv ?_
       refine Zb 124 Y Y Y (Zl (xs:=[.tmp 123]) Y Y (HM _) by3 ?_);intro c124 h124
       refine Qa ?_
       obtain ⟨rfl,g124⟩|⟨rfl,g124⟩:=Za h124
       ·refine Qbg ?_
        refine Qcf ?_
        first|refine Zt (i:=1) Y Y Y Y Y Yd Y (Xg _) by5 ⟨?_,Y⟩|refine Zt (i:=0) Y Y Y Y Y Yd Y (Xg _) by5 ⟨?_,Y⟩
        rw [hO,nameO,if_neg by13]
        simp [oneR,Tok.av,kindT,g113,g116,g120,g124];done
       refine Qa0 ?_
       refine QbY ?_
       first|refine Zt (i:=1) Y Y Y Y Y Yd Y (Xg _) by5 ⟨?_,Y⟩|refine Zt (i:=0) Y Y Y Y Y Yd Y (Xg _) by5 ⟨?_,Y⟩
       rw [hO,nameO,if_neg by13]
       simp [oneR,Tok.av,kindT,g124];done
      refine Qa0 ?_
      refine QbD ?_
      refine Zb 124 Y Y Y (Zl (xs:=[.tmp 123]) Y Y (HM _) by3 ?_);intro c124 h124
      refine Qa ?_
      obtain ⟨rfl,g124⟩|⟨rfl,g124⟩:=Za h124
      ·refine Qbg ?_
       refine Qcf ?_
       first|refine Zt (i:=1) Y Y Y Y Y Yd Y (Xg _) by5 ⟨?_,Y⟩|refine Zt (i:=0) Y Y Y Y Y Yd Y (Xg _) by5 ⟨?_,Y⟩
       rw [hO,nameO,if_neg by13]
       simp [oneR,Tok.av,kindT,g120,g124];done
      refine Qa0 ?_
      refine QbY ?_
      first|refine Zt (i:=1) Y Y Y Y Y Yd Y (Xg _) by5 ⟨?_,Y⟩|refine Zt (i:=0) Y Y Y Y Y Yd Y (Xg _) by5 ⟨?_,Y⟩
      rw [hO,nameO,if_neg by13]
      simp [oneR,Tok.av,kindT,g124];done
     refine Qa0 ?_
     refine QbD ?_
     refine Zb 120 Y Y Y (Zl (xs:=[.tmp 119]) Y Y (HKy _) by3 ?_);intro c120 h120
     refine Qa ?_
     obtain ⟨rfl,g120⟩|⟨rfl,g120⟩:=Za h120
     ·refine Qcv ?_
      refine Zb 124 Y Y Y (Zl (xs:=[.tmp 123]) Y Y (HM _) by3 ?_);intro c124 h124
      refine Qa ?_
      obtain ⟨rfl,g124⟩|⟨rfl,g124⟩:=Za h124
      ·refine Qbg ?_
       refine Qcf ?_
       first|refine Zt (i:=1) Y Y Y Y Y Yd Y (Xg _) by5 ⟨?_,Y⟩|refine Zt (i:=0) Y Y Y Y Y Yd Y (Xg _) by5 ⟨?_,Y⟩
       rw [hO,nameO,if_neg by13]
       simp [oneR,Tok.av,kindT,g116,g120,g124];done
      refine Qa0 ?_
      refine QbY ?_
      first|refine Zt (i:=1) Y Y Y Y Y Yd Y (Xg _) by5 ⟨?_,Y⟩|refine Zt (i:=0) Y Y Y Y Y Yd Y (Xg _) by5 ⟨?_,Y⟩
      rw [hO,nameO,if_neg by13]
      simp [oneR,Tok.av,kindT,g124];done
     refine Qa0 ?_
     refine QbD ?_
     refine Zb 124 Y Y Y (Zl (xs:=[.tmp 123]) Y Y (HM _) by3 ?_);intro c124 h124
     refine Qa ?_
     obtain ⟨rfl,g124⟩|⟨rfl,g124⟩:=Za h124
     ·refine Qbg ?_
      refine Qcf ?_
      first|refine Zt (i:=1) Y Y Y Y Y Yd Y (Xg _) by5 ⟨?_,Y⟩|refine Zt (i:=0) Y Y Y Y Y Yd Y (Xg _) by5 ⟨?_,Y⟩
      rw [hO,nameO,if_neg by13]
      simp [oneR,Tok.av,kindT,g120,g124];done
     refine Qa0 ?_
     refine QbY ?_
     first|refine Zt (i:=1) Y Y Y Y Y Yd Y (Xg _) by5 ⟨?_,Y⟩|refine Zt (i:=0) Y Y Y Y Y Yd Y (Xg _) by5 ⟨?_,Y⟩
     rw [hO,nameO,if_neg by13]
     simp [oneR,Tok.av,kindT,g124];done
    refine Qa0 ?_
    refine Q2 ?_
    refine Zb 116 Y Y Y (Zl (xs:=[.tmp 115]) Y Y (HS _) by3 ?_);intro c116 h116
    refine Qa ?_
    obtain ⟨rfl,g116⟩|⟨rfl,g116⟩:=Za h116
    ·refine Qcv ?_
     refine Zb 120 Y Y Y (Zl (xs:=[.tmp 119]) Y Y (HKy _) by3 ?_);intro c120 h120
     refine Qa ?_
     obtain ⟨rfl,g120⟩|⟨rfl,g120⟩:=Za h120
     ·refine Qcv ?_
      refine Zb 124 Y Y Y (Zl (xs:=[.tmp 123]) Y Y (HM _) by3 ?_);intro c124 h124
      refine Qa ?_
      obtain ⟨rfl,g124⟩|⟨rfl,g124⟩:=Za h124
      ·refine Qbg ?_
       refine Qcf ?_
       first|refine Zt (i:=1) Y Y Y Y Y Yd Y (Xg _) by5 ⟨?_,Y⟩|refine Zt (i:=0) Y Y Y Y Y Yd Y (Xg _) by5 ⟨?_,Y⟩
       rw [hO,nameO,if_neg by13]
       simp [oneR,Tok.av,kindT,g113,g116,g120,g124];done
      refine Qa0 ?_
      refine QbY ?_
      first|refine Zt (i:=1) Y Y Y Y Y Yd Y (Xg _) by5 ⟨?_,Y⟩|refine Zt (i:=0) Y Y Y Y Y Yd Y (Xg _) by5 ⟨?_,Y⟩
      rw [hO,nameO,if_neg by13]
      simp [oneR,Tok.av,kindT,g124];done
     refine Qa0 ?_
     refine QbD ?_
     refine Zb 124 Y Y Y (Zl (xs:=[.tmp 123]) Y Y (HM _) by3 ?_);intro c124 h124
     refine Qa ?_
     obtain ⟨rfl,g124⟩|⟨rfl,g124⟩:=Za h124
     ·refine Qbg ?_
      refine Qcf ?_
      first|refine Zt (i:=1) Y Y Y Y Y Yd Y (Xg _) by5 ⟨?_,Y⟩|refine Zt (i:=0) Y Y Y Y Y Yd Y (Xg _) by5 ⟨?_,Y⟩
      rw [hO,nameO,if_neg by13]
      simp [oneR,Tok.av,kindT,g120,g124];done
     refine Qa0 ?_
     refine QbY ?_
     first|refine Zt (i:=1) Y Y Y Y Y Yd Y (Xg _) by5 ⟨?_,Y⟩|refine Zt (i:=0) Y Y Y Y Y Yd Y (Xg _) by5 ⟨?_,Y⟩
     rw [hO,nameO,if_neg by13]
     simp [oneR,Tok.av,kindT,g124];done
    refine Qa0 ?_
    refine QbD ?_
    refine Zb 120 Y Y Y (Zl (xs:=[.tmp 119]) Y Y (HKy _) by3 ?_);intro c120 h120
    refine Qa ?_
    obtain ⟨rfl,g120⟩|⟨rfl,g120⟩:=Za h120
    ·refine Qcv ?_
     refine Zb 124 Y Y Y (Zl (xs:=[.tmp 123]) Y Y (HM _) by3 ?_);intro c124 h124
     refine Qa ?_
     obtain ⟨rfl,g124⟩|⟨rfl,g124⟩:=Za h124
     ·refine Qbg ?_
      refine Qcf ?_
      first|refine Zt (i:=1) Y Y Y Y Y Yd Y (Xg _) by5 ⟨?_,Y⟩|refine Zt (i:=0) Y Y Y Y Y Yd Y (Xg _) by5 ⟨?_,Y⟩
      rw [hO,nameO,if_neg by13]
      simp [oneR,Tok.av,kindT,g116,g120,g124];done
     refine Qa0 ?_
     refine QbY ?_
     first|refine Zt (i:=1) Y Y Y Y Y Yd Y (Xg _) by5 ⟨?_,Y⟩|refine Zt (i:=0) Y Y Y Y Y Yd Y (Xg _) by5 ⟨?_,Y⟩
     rw [hO,nameO,if_neg by13]
     simp [oneR,Tok.av,kindT,g124];done
    refine Qa0 ?_
    refine QbD ?_
    refine Zb 124 Y Y Y (Zl (xs:=[.tmp 123]) Y Y (HM _) by3 ?_);intro c124 h124
    refine Qa ?_
    obtain ⟨rfl,g124⟩|⟨rfl,g124⟩:=Za h124
    ·refine Qbg ?_
     refine Qcf ?_
     first|refine Zt (i:=1) Y Y Y Y Y Yd Y (Xg _) by5 ⟨?_,Y⟩|refine Zt (i:=0) Y Y Y Y Y Yd Y (Xg _) by5 ⟨?_,Y⟩
     rw [hO,nameO,if_neg by13]
     simp [oneR,Tok.av,kindT,g120,g124];done
    refine Qa0 ?_
    refine QbY ?_
    first|refine Zt (i:=1) Y Y Y Y Y Yd Y (Xg _) by5 ⟨?_,Y⟩|refine Zt (i:=0) Y Y Y Y Y Yd Y (Xg _) by5 ⟨?_,Y⟩
    rw [hO,nameO,if_neg by13]
    simp [oneR,Tok.av,kindT,g124];done
   refine Qag ?_
   refine QbH ?_
   refine Qb3 ?_
   refine Qbv ?_
   first|refine Zt (i:=1) Y Y Y Y Y Yd Y (Xg _) by5 ⟨?_,Y⟩|refine Zt (i:=0) Y Y Y Y Y Yd Y (Xg _) by5 ⟨?_,Y⟩
   rw [hO,nameO,if_pos by13];rfl
  exact absurd g40 h2
 omega
def mid (s:ByteArray) (f n:Nat):List Nat:=(rst s f).take (n - f)
theorem mid_cons {s:ByteArray} {f n:Nat} {b:Nat} (hf:f<n) (hr:rst s f=b::rst s (f+1)):mid s f n=b::mid s (f+1) n:=by
 unfold mid;rw [hr,show n - f=(n - (f+1))+1 by omega,List.take_succ_cons]
theorem mid_len (s:ByteArray) (f n:Nat) (h:n≤s.size):(mid s f n).length=n - f:=by unfold mid;rw [List.length_take,rst_len];omega
theorem mid_drop (s:ByteArray) (f n z:Nat):(mid s f n).drop z=mid s (f+z) n:=by
 unfold mid;rw [List.drop_take,rst_drop,show n - f - z=n - (f+z) by omega]
theorem run_all (k:Nat):∀ l:List Nat,∀ x∈l.take (run k l),kindC k x=true
 | [],x,hx=>by simp at hx
 | c::l,x,hx=>by
  unfold run at hx
  by_cases q:kindC k c=true
  ·rw [if_pos q,List.take_succ_cons] at hx
   rcases List.mem_cons.1 hx with rfl|hx
   ·exact q
   exact run_all k l x hx
  rw [if_neg q] at hx;simp at hx
theorem zeros_48 {l:List Nat} (h:l≠[]):zeros (48::l)=zeros l+1:=by rw [zeros,if_pos ⟨rfl,h⟩]
theorem zeros_no {c:Nat} {l:List Nat} (h:¬ (c=48∧l≠[])):zeros (c::l)=0:=by rw [zeros,if_neg h]
theorem bytes_ext (s:ByteArray) (f n:Nat):rst (s.extract f n) 0=mid s f n:=by
 unfold rst
 rw [List.drop_zero,rst_cut s f n,bytesN_strN _ (fun x hx=>rst_lt s f x (List.mem_of_mem_take hx))];rfl
theorem parse_mid (s:ByteArray) (hs:s.size≤60000) (f n:Nat) (hn:n≤s.size) (hf:f<n) (hd:∀ x∈mid s f n,48≤x∧x≤57) (hz:∀ l,mid s f n=48::l→l=[]):PCall Tryz.prog 91 [.val (.string (s.extract f n))] (parR (parL (mid s f n))):=by
 have hsz:(s.extract f n).size=n - f:=by simp [ByteArray.size_extract];omega
 have hb:=bytes_ext s f n
 have hmem:∀ (i:Nat) (b:UInt8),(s.extract f n)[i]?=some b→i<(s.extract f n).size∧b.toNat∈mid s f n∧(i=0→∃ l,mid s f n=b.toNat::l∧l.length+1=n - f):=by
  intro i b h
  have hi:i<(s.extract f n).size:=by
   rcases Nat.lt_or_ge i (s.extract f n).size with q|q
   ·exact q
   rw [getElem?_neg (s.extract f n) i (Nat.not_lt.2 q)] at h;cases h
  obtain ⟨b',h1,h2,_⟩:=Yu hi
  rw [h] at h1;cases h1
  refine ⟨hi,?_,?_⟩
  ·have:b.toNat∈rst (s.extract f n) i:=by rw [h2];exact List.mem_cons_self
   rw [← hb];unfold rst;rw [List.drop_zero];exact List.mem_of_mem_drop this
  rintro rfl
  rw [hb] at h2
  refine ⟨_,h2,?_⟩
  have:=mid_len s f n hn
  rw [h2] at this
  simpa using this
 have H:=rParse_c (s.extract f n) by18 by18 (fun i b h=>hd _ (hmem i b h).2.1) (fun b h h48=>by
  obtain ⟨l,hl,hle⟩:=(hmem 0 b h).2.2 rfl
  rw [h48] at hl
  rw [hz l hl] at hle
  simp at hle;omega)
 rw [hb] at H
 exact H
def digO (a:Int) (k:Nat) (z:List Nat):Tok × Int × Int:=match parL z with
 | none=>(tok0 a,0,102)
 | some v=>(⟨3,strN z,v,a⟩,a+k,0)
theorem oneL_D {a:Int} {c:Nat} {r:List Nat} (h1:c≠34) (h2:digitC c=true):oneL a (c::r)=digO a (run 2 (c::r)) (((c::r).take (run 2 (c::r))).drop (zeros ((c::r).take (run 2 (c::r))))):=by
 rw [oneL,if_neg h1,if_pos h2]
 dsimp only [digO]
 cases parL (((c::r).take (run 2 (c::r))).drop (zeros ((c::r).take (run 2 (c::r))))) <;> rfl
theorem zeros_lt:∀ l:List Nat,l≠[]→zeros l<l.length
 | [],h=>absurd rfl h
 | c::l,_=>by
  unfold zeros
  by_cases q:c=48∧l≠[]
  ·rw [if_pos q];have:=zeros_lt l q.2;simp;omega
  rw [if_neg q];simp
theorem zeros_head:∀ l m:List Nat,l.drop (zeros l)=48::m→m=[]
 | [],m,h=>by simp at h
 | c::l,m,h=>by
  unfold zeros at h
  by_cases q:c=48∧l≠[]
  ·rw [if_pos q] at h;exact zeros_head l m (by simpa using h)
  rw [if_neg q] at h
  simp at h
  obtain ⟨rfl,rfl⟩:=h
  exact Classical.byContradiction fun e=>q ⟨Y,e⟩
theorem one_digit (s:ByteArray) (hs:s.size≤60000) (at_:Nat) (ha:at_<s.size) (b:UInt8) (hb:s[at_]?=some b) (h2:digitC b.toNat=true):PCall Tryz.prog 70 [.val (.string s),.val (.int .i64 at_)] (oneR (oneL at_ (rst s at_))):=by
 obtain ⟨b',hb',hr,_⟩:=Yu ha
 obtain rfl:b'=b:=by rw [hb] at hb';cases hb';rfl
 have h1:b'.toNat≠34:=by have:=(digitC_iff _).1 h2;omega
 have HE:=end_c s hs at_ 2 by18 by18 by18
 have HD:=digit_c
 have hle:=run_le 2 (rst s at_)
 rw [rst_len] at hle
 have hk1:1≤run 2 (rst s at_):=by rw [hr];exact run_pos h2
 have hall:=run_all 2 (rst s at_)
 have hD:=oneL_D (a:=at_) (r:=rst s (at_+1)) h1 h2
 rw [← hr] at hD
 obtain ⟨n,hn⟩:∃ n,n=at_+run 2 (rst s at_):=⟨_,rfl⟩
 have hm:(rst s at_).take (run 2 (rst s at_))=mid s at_ n:=by unfold mid;rw [hn,show at_+run 2 (rst s at_) - at_=run 2 (rst s at_) by omega]
 have hns:n≤s.size:=by omega
 have hml:=mid_len s at_ n hns
 have hzl:=zeros_lt (mid s at_ n) (fun e=>by rw [e] at hml;simp at hml;omega)
 rw [hm] at hall
 rw [hm,mid_drop] at hD
 have hzh:=zeros_head (mid s at_ n)
 rw [mid_drop] at hzh
 have hk:((run 2 (rst s at_):Nat):Int)=n - at_:=by omega
 rw [← hn] at HE
 obtain ⟨F,hFF⟩:∃ F,at_+zeros (mid s at_ n)=F:=⟨_,rfl⟩
 rw [hFF] at hzh hD
 have hFn:F<n:=by omega
 have HP:=parse_mid s hs F n hns hFn (fun x hx=>by
  have hx2:x∈mid s at_ n:=by
   rw [show mid s F n=(mid s at_ n).drop (zeros (mid s at_ n)) by rw [mid_drop,hFF]] at hx
   exact List.mem_of_mem_drop hx
  have:=hall x hx2
  exact (digitC_iff x).1 this) hzh
 have hO:oneL at_ (rst s at_)=match parL (mid s F n) with
     | none=>(tok0 at_,0,102)
     | some v=>(⟨3,s.extract F n,v,at_⟩,n,0):=by
  rw [hD,digO,show strN (mid s F n)=s.extract F n from (rst_cut s F n).symm]
  cases parL (mid s F n) with
  | none=>rfl
  | some v=>simp only [];congr 2;omega
 clear hD hall hm hk hle hk1
 cases hp:parL (mid s F n) with
 | none =>
  rw [hp] at HP hO
  simp only [parR] at HP hO
  refine Qdi ?_
  refine Qn ?_
  refine Qz ?_;intro b4
  refine Qav ?_
  refine QP ?_
  refine Qd6 ?_
  refine QaR ?_
  refine Qdj ?_
  refine Qz ?_;intro b8
  refine QbX ?_
  refine Qj ?_;intro c23 h23
  refine Qa ?_
  obtain ⟨rfl,g23⟩|⟨rfl,g23⟩:=Za h23
  ·refine QaB ?_
   refine Zb 40 Y Y Y (Zl (xs:=[.tmp 39]) Y Y (HD _) by3 ?_);intro c40 h40
   refine Qa ?_
   obtain ⟨rfl,g40⟩|⟨rfl,g40⟩:=Za h40
   ·exact absurd h2 g40
   refine Qh ?_
   refine QP ?_
   refine Zb 43 Y Y Y (Ze (xs:=[.tmp 41,.tmp 42,.const (.int .i64 2)]) Y Y (HE) by3 ?_)
   refine QaR ?_
   refine Qf ?_
   refine Qa6 ?_
   apply Zy (rg [(2,2),(9,3),(13,1),(17,40)]) (σ:=Nat) (fun zz=>match zz with|f=>[(13,.val (.int .i64 f))]) (fun zz=>match zz with|f=>at_≤f∧f+1≤n∧zeros (mid s at_ n)=f - at_+zeros (mid s f n)) (fun zz=>match zz with|f=>n - f) (at_)
   ·repeat' (first|exact Xp|apply Xn rfl|apply Xo rfl)
   ·exact ⟨Nat.le_refl _,by omega,by simp⟩
   ·exact by6
   rintro f hI
   try dsimp only [List.cons_append,List.nil_append] at hI ⊢
   obtain ⟨hf1,hf2,hz⟩:=hI
   refine QL ?_
   obtain ⟨d,hd,hrd,hdl⟩:=Yu (s:=s) (i:=f) by18
   have hmc:=mid_cons (n:=n) by18 hrd
   refine Zx 54 (f+1<n∧d.toNat=48) ?_ _ _ Y ?_
   ·skip
    refine QaA ?_
    refine QT ?_
    refine Qk ?_;intro c48 h48
    refine Qb ?_
    obtain ⟨rfl,g48⟩|⟨rfl,g48⟩:=Za h48
    ·skip
     refine Qm ?_
     refine Qg ?_
     refine Xk Y ?_ by7 by5
     clear HE HD HP hz;first|(simp_all;done)|(simp_all;omega)|grind
    skip
    refine Qch ?_
    refine Zm 52 Y Y Y Y Y (Yj Y tu_9 Y Y Y (hd) ?_)
    refine Qan ?_;intro c53 h53
    refine Qg ?_
    refine Xk Y ?_ by7 by5
    clear HE HD HP hz;first|(simp_all;done)|(simp_all;omega)|grind
   intro c54 h54
   refine Qc ?_
   obtain ⟨rfl,g54⟩|⟨rfl,g54⟩:=Za h54
   ·refine QE ?_
    have hzz:zeros (mid s f n)=0:=by
     rw [hmc]
     refine zeros_no fun q=>g54 ⟨?_,q.1⟩
     rcases Nat.lt_or_ge (f+1) n with q2|q2
     ·exact q2
     exact absurd (by have:=mid_len s (f+1) n hns;exact List.eq_nil_of_length_eq_zero by18) q.2
    have hF:F=f:=by rw [← hFF,hz,hzz];omega
    subst hF
    refine QF ?_
    refine Qb ?_
    refine Qd7 ?_
    refine Zb 62 Y Y Y (Ze (xs:=[.tmp 61]) Y Y (HP) by3 ?_)
    refine Qbf ?_
    refine Qcu ?_
    refine Qao ?_;intro c66 h66
    refine Qa ?_
    obtain ⟨rfl,g66⟩|⟨rfl,g66⟩:=Za h66
    ·omega
    refine Qag ?_
    refine QbH ?_
    refine Qb3 ?_
    refine Qbv ?_
    first|refine Zt (i:=1) Y Y Y Y Y Yd Y (Xg _) by5 ⟨?_,Y⟩|refine Zt (i:=0) Y Y Y Y Y Yd Y (Xg _) by5 ⟨?_,Y⟩
    rw [hO];rfl
   refine Qab ?_
   refine QbN ?_
   refine QaF ?_
   have hne:mid s (f+1) n≠[]:=fun e=>by
    have:=mid_len s (f+1) n hns
    rw [e] at this;simp at this;omega
   rw [hmc,g54.2,zeros_48 hne] at hz
   exact ⟨f+1,⟨by omega,by omega,by omega⟩,by simp;omega,by6,by5⟩
  omega
 | some v =>
  rw [hp] at HP hO
  simp only [parR] at HP hO
  refine Qdi ?_
  refine Qn ?_
  refine Qz ?_;intro b4
  refine Qav ?_
  refine QP ?_
  refine Qd6 ?_
  refine QaR ?_
  refine Qdj ?_
  refine Qz ?_;intro b8
  refine QbX ?_
  refine Qj ?_;intro c23 h23
  refine Qa ?_
  obtain ⟨rfl,g23⟩|⟨rfl,g23⟩:=Za h23
  ·refine QaB ?_
   refine Zb 40 Y Y Y (Zl (xs:=[.tmp 39]) Y Y (HD _) by3 ?_);intro c40 h40
   refine Qa ?_
   obtain ⟨rfl,g40⟩|⟨rfl,g40⟩:=Za h40
   ·exact absurd h2 g40
   refine Qh ?_
   refine QP ?_
   refine Zb 43 Y Y Y (Ze (xs:=[.tmp 41,.tmp 42,.const (.int .i64 2)]) Y Y (HE) by3 ?_)
   refine QaR ?_
   refine Qf ?_
   refine Qa6 ?_
   apply Zy (rg [(2,2),(9,3),(13,1),(17,40)]) (σ:=Nat) (fun zz=>match zz with|f=>[(13,.val (.int .i64 f))]) (fun zz=>match zz with|f=>at_≤f∧f+1≤n∧zeros (mid s at_ n)=f - at_+zeros (mid s f n)) (fun zz=>match zz with|f=>n - f) (at_)
   ·repeat' (first|exact Xp|apply Xn rfl|apply Xo rfl)
   ·exact ⟨Nat.le_refl _,by omega,by simp⟩
   ·exact by6
   rintro f hI
   try dsimp only [List.cons_append,List.nil_append] at hI ⊢
   obtain ⟨hf1,hf2,hz⟩:=hI
   refine QL ?_
   obtain ⟨d,hd,hrd,hdl⟩:=Yu (s:=s) (i:=f) by18
   have hmc:=mid_cons (n:=n) by18 hrd
   refine Zx 54 (f+1<n∧d.toNat=48) ?_ _ _ Y ?_
   ·skip
    refine QaA ?_
    refine QT ?_
    refine Qk ?_;intro c48 h48
    refine Qb ?_
    obtain ⟨rfl,g48⟩|⟨rfl,g48⟩:=Za h48
    ·skip
     refine Qm ?_
     refine Qg ?_
     refine Xk Y ?_ by7 by5
     clear HE HD HP hz;first|(simp_all;done)|(simp_all;omega)|grind
    skip
    refine Qch ?_
    refine Zm 52 Y Y Y Y Y (Yj Y tu_9 Y Y Y (hd) ?_)
    refine Qan ?_;intro c53 h53
    refine Qg ?_
    refine Xk Y ?_ by7 by5
    clear HE HD HP hz;first|(simp_all;done)|(simp_all;omega)|grind
   intro c54 h54
   refine Qc ?_
   obtain ⟨rfl,g54⟩|⟨rfl,g54⟩:=Za h54
   ·refine QE ?_
    have hzz:zeros (mid s f n)=0:=by
     rw [hmc]
     refine zeros_no fun q=>g54 ⟨?_,q.1⟩
     rcases Nat.lt_or_ge (f+1) n with q2|q2
     ·exact q2
     exact absurd (by have:=mid_len s (f+1) n hns;exact List.eq_nil_of_length_eq_zero by18) q.2
    have hF:F=f:=by rw [← hFF,hz,hzz];omega
    subst hF
    refine QF ?_
    refine Qb ?_
    refine Qd7 ?_
    refine Zb 62 Y Y Y (Ze (xs:=[.tmp 61]) Y Y (HP) by3 ?_)
    refine Qbf ?_
    refine Qcu ?_
    refine Qao ?_;intro c66 h66
    refine Qa ?_
    obtain ⟨rfl,g66⟩|⟨rfl,g66⟩:=Za h66
    ·refine QN ?_
     refine Qat ?_
     refine Qdu ?_
     refine Qt ?_
     refine Qu ?_
     refine Zp Y Y (Zi (cs':=[_,_,_,_]) (i:=0) Y ts_2 Y Y Y Y Y (Xm Y) Y ?_)
     refine Qt ?_
     refine QaA ?_
     refine Qd7 ?_
     refine Qu ?_
     refine Qd5 ?_
     refine QbY ?_
     first|refine Zt (i:=1) Y Y Y Y Y Yd Y (Xg _) by5 ⟨?_,Y⟩|refine Zt (i:=0) Y Y Y Y Y Yd Y (Xg _) by5 ⟨?_,Y⟩
     rw [hO];rfl
    omega
   refine Qab ?_
   refine QbN ?_
   refine QaF ?_
   have hne:mid s (f+1) n≠[]:=fun e=>by
    have:=mid_len s (f+1) n hns
    rw [e] at this;simp at this;omega
   rw [hmc,g54.2,zeros_48 hne] at hz
   exact ⟨f+1,⟨by omega,by omega,by omega⟩,by simp;omega,by6,by5⟩
  omega
theorem one_c (s:ByteArray) (hs:s.size≤60000) (at_:Nat) (ha:at_<s.size):PCall Tryz.prog 70 [.val (.string s),.val (.int .i64 at_)] (oneR (oneL at_ (rst s at_))):=by
 obtain ⟨b,hb,hr,_⟩:=Yu ha
 by_cases q1:b.toNat=34
 ·rw [hr];exact one_text s hs at_ ha b hb q1
 by_cases q2:digitC b.toNat=true
 ·exact one_digit s hs at_ ha b hb q2
 exact one_N s hs at_ ha b hb q1 q2
theorem txL_le:∀ (l:List Nat) (r:List Nat × Nat),txL l=some r→1≤r.2∧r.2≤l.length
 | [],r,h=>by simp [txL] at h
 | [c],r,h=>by
  rw [txL.eq_def] at h
  simp only [] at h
  split at h
  ·cases h;simp
  split at h
  ·cases h
  split at h
  ·cases h
  simp [txL] at h
 | c::d::l,r,h=>by
  by_cases h1:c=34
  ·subst h1;rw [tx_end] at h;cases h;simp
  by_cases h2:c=10
  ·subst h2;rw [tx_10] at h;cases h
  by_cases h3:c=92
  ·subst h3
   rw [tx_esc] at h
   cases hu:unesc d with
   | none=>rw [hu] at h;cases h
   | some x =>
    rw [hu] at h
    simp only [] at h
    cases ht:txL l with
    | none=>rw [ht] at h;cases h
    | some y =>
     rw [ht] at h;cases h
     have:=txL_le l y ht
     simp;omega
  rw [tx_more _ h1 h2 h3] at h
  cases ht:txL (d::l) with
  | none=>rw [ht] at h;cases h
  | some y =>
   rw [ht] at h;cases h
   have:=txL_le (d::l) y ht
   simp at this ⊢;omega
theorem oneL_le (a:Int) (c:Nat) (r:List Nat) (h:(oneL a (c::r)).2.2=0):a+1≤(oneL a (c::r)).2.1∧(oneL a (c::r)).2.1≤a+(c::r).length:=by
 by_cases h1:c=34
 ·rw [oneL,if_pos h1] at h ⊢
  cases ht:txL r with
  | none=>rw [ht] at h;simp at h
  | some y =>
   have:=txL_le r y ht
   simp;omega
 have hl1:=run_le 1 (c::r)
 have hl2:=run_le 2 (c::r)
 have hl3:=run_le 3 (c::r)
 by_cases h2:digitC c=true
 ·have:=run_pos (k:=2) (c:=c) (l:=r) h2
  rw [oneL_D h1 h2,digO] at h ⊢
  revert h
  cases parL (((c::r).take (run 2 (c::r))).drop (zeros ((c::r).take (run 2 (c::r))))) with
  | none=>intro h;simp at h
  | some v=>intro _;simp only [];omega
 have nm:∀ k w,1≤k→k≤(c::r).length→(nameO a c k w).2.2=0→a+1≤(nameO a c k w).2.1∧(nameO a c k w).2.1≤a+(c::r).length:=by
  intro k w k1 k2 h
  unfold nameO at h ⊢
  by_cases q:40<k
  ·rw [if_pos q] at h;simp at h
  rw [if_neg q];simp only [];omega
 by_cases h3:smallC c=true∨greatC c=true
 ·have hp:=run_pos (k:=1) (c:=c) (l:=r) (by rw [kindC,if_pos rfl,nameC_iff];rcases h3 with q|q;exact .inl q;exact .inr (.inl q))
  rw [oneL_A h1 h2 h3] at h ⊢
  exact nm _ _ hp hl1 h
 by_cases h4:signC c=true
 ·have hp:=run_pos (k:=3) (c:=c) (l:=r) (by rw [kindC,if_neg by17,if_neg by17];exact h4)
  rw [oneL_B h1 h2 h3 h4] at h ⊢
  exact nm _ _ hp hl3 h
 rw [oneL_C h1 h2 h3 h4] at h ⊢
 by_cases q:markT (strN ((c::r).take 1))=false
 ·rw [if_pos q] at h;simp at h
 rw [if_neg q] at h ⊢
 exact nm _ _ (Nat.le_refl _) by19 h
def scanR (o:List Tok × Int × Int):AV:=.tup [.seq 4 (o.1.map Tok.av),.val (.int .i64 o.2.1),.val (.int .i64 o.2.2)]
theorem lexF_nil (f:Nat) (i:Int) (acc:List Tok):lexF f i [] acc=(acc++[tok0 i],0,0):=by cases f <;> rfl
theorem lexF_bad {f:Nat} {i:Int} {c:Nat} {l:List Nat} {acc:List Tok} (h:(oneL i (c::l)).2.2≠0):lexF (f+1) i (c::l) acc=([],(oneL i (c::l)).2.2,i):=by
 rw [lexF];simp only [if_pos h]
theorem lexF_go {f:Nat} {i:Int} {c:Nat} {l:List Nat} {acc:List Tok} (h:(oneL i (c::l)).2.2=0):lexF (f+1) i (c::l) acc=lexF f ((oneL i (c::l)).2.1+ovr false ((c::l).drop ((oneL i (c::l)).2.1 - i).toNat)) (((c::l).drop ((oneL i (c::l)).2.1 - i).toNat).drop (ovr false ((c::l).drop ((oneL i (c::l)).2.1 - i).toNat))) (acc++[(oneL i (c::l)).1]):=by
 rw [lexF];simp only [if_neg (fun q:(oneL i (c::l)).2.2≠0=>q h)]
theorem Scan_long (s:ByteArray) (hs:60000<s.size):PCall Tryz.prog 36 [.val (.string s)] (scanR (scanT s)):=by
 have hO:scanT s=([],3,0):=by rw [scanT,if_pos hs]
 refine Zc Tryz.func36 Y (by kernel_rfl) Y (Xm Y) ?_
 refine Qn ?_
 refine Qa3 ?_
 refine Qcu ?_
 refine Qb6 ?_
 refine Q0 ?_;intro c13 h13
 refine Qa ?_
 obtain ⟨rfl,g13⟩|⟨rfl,g13⟩:=Za h13
 ·omega
 refine Qag ?_
 refine Qct ?_
 exact out_ttt (v':=scanR ([],3,0)) Y Y Y Y (Le.tup (Xi (Le.nil _) (Xh _))) by5 ⟨by rw [hO],Y⟩
theorem Scan_short (s:ByteArray) (hs:s.size≤60000):PCall Tryz.prog 36 [.val (.string s)] (scanR (scanT s)):=by
 have HB:=bad_c s hs
 have HO:=over_c s hs 0 (Nat.zero_le _)
 have hol:=ovr_le false (rst s 0)
 rw [rst_len] at hol
 have hO:scanT s=if 0≤badF (s.size+1) 0 (rst s 0) then ([],100,badF (s.size+1) 0 (rst s 0)) else lexF (s.size+1) (ovr false (rst s 0)) (rst s (ovr false (rst s 0))) []:=by
  rw [scanT,if_neg by18,rst_drop,Nat.zero_add]
 rw [Nat.zero_add] at HO
 generalize badF (s.size+1) 0 (rst s 0)=bd at *
 generalize hov:ovr false (rst s 0)=o0 at *
 refine Zc Tryz.func36 Y (by kernel_rfl) Y (Xm Y) ?_
 refine Qn ?_
 refine Qa3 ?_
 refine Qcu ?_
 refine Qb6 ?_
 refine Q0 ?_;intro c13 h13
 refine Qa ?_
 obtain ⟨rfl,g13⟩|⟨rfl,g13⟩:=Za h13
 ·refine QY ?_
  refine Zb 15 Y Y Y (Ze (xs:=[.tmp 14]) Y Y (HB) by3 ?_)
  refine Qcs ?_
  refine QcG ?_;intro c17 h17
  refine Qa ?_
  obtain ⟨rfl,g17⟩|⟨rfl,g17⟩:=Za h17
  ·refine QN ?_
   refine Qcm ?_
   rw [if_neg by18] at hO
   refine ACode.ownNil (t:=6) 72 4 Y ?_
   refine Qe ?_
   refine Zb 20 Y Y Y (Ze (xs:=[.tmp 19,.const (.int .i64 0)]) Y Y (HO) by3 ?_)
   refine Qf ?_
   refine Qa6 ?_
   apply Ye (rg [(1,42)]) (σ:=Nat × Nat × List Tok × Value) (fun zz=>match zz with|(i,f,acc,u)=>[(6,.own u 4 (acc.map Tok.av)),(7,.val (.int .i64 i))]) (fun zz=>match zz with|(i,f,acc,u)=>[.own 72 4 u]) (fun zz=>match zz with|(i,f,acc,u)=>i≤s.size∧s.size - i<f∧acc.length≤i∧scanT s=lexF f i (rst s i) acc) (fun zz=>match zz with|(i,f,acc,u)=>s.size - i) ((o0,s.size+1,[],.slice none 0 0))
   ·repeat' (first|exact Xp|apply Xn rfl|apply Xo rfl)
   ·exact ⟨by omega,by omega,Nat.zero_le _,hO⟩
   ·exact (by repeat' (first|exact SLe.nil _|refine Xj Y ?_ ?_|exact Xg _|exact Le.own _ _ _|exact Le.nil _|(refine Xl ?_;rfl)|(refine Le.own_seq ?_;rfl)|(refine Le.seq_eq ?_;rfl)))
   ·exact by5
   rintro ⟨i,f,acc,u⟩ hI
   try dsimp only [List.cons_append,List.nil_append] at hI ⊢
   obtain ⟨h1,h2,h3,hu⟩:=hI
   have hle:(acc.map Tok.av).length≤100000:=by rw [List.length_map];omega
   refine Qal ?_
   refine QbW ?_;intro c24 h24
   refine Qa ?_
   obtain ⟨rfl,g24⟩|⟨rfl,g24⟩:=Za h24
   ·refine QaE ?_
    refine QP ?_
    refine Qb6 ?_
    refine Zb 46 Y Y Y (Zk (ns:=[3]) (xs:=[.tmp 45]) Y tz_72 Y tfl_72 Y Y Y Y (Zb 47 Y Y Y (Zd (xs:=[.tmp 46]) el_68 Y Y Y Y Y Y (Xm Y) (Zb 48 Y Y Y (Zr (i:=0) el_68 Y Y Y Y (.seq _ _) by8 ?_)))))
    intro u48
    refine Qct ?_
    have hi:s.size=i:=by omega
    refine out_ttt (v':=scanR (acc++[tok0 i],0,0)) Y Y Y Y (Le.tup (Xi (Le.own_seq ?_) (Xh _))) by5 ⟨?_,Y⟩
    ·simp [Tok.av,tok0,AV.cells,hi];rfl
    rw [hu,rst_nil by18,lexF_nil]
   refine Qab ?_
   refine QG ?_
   obtain ⟨b,_,hr,_⟩:=Yu (s:=s) (i:=i) by18
   have H1:=one_c s hs i by18
   obtain ⟨f,rfl⟩:∃ f',f=f'+1:=⟨f - 1,by omega⟩
   have hb0:=lexF_bad (f:=f) (i:=i) (c:=b.toNat) (l:=rst s (i+1)) (acc:=acc)
   have hg0:=lexF_go (f:=f) (i:=i) (c:=b.toNat) (l:=rst s (i+1)) (acc:=acc)
   have hl0:=oneL_le i b.toNat (rst s (i+1))
   rw [← hr] at hb0 hg0 hl0
   rw [rst_len] at hl0
   obtain ⟨⟨⟨tk,tt,tn,ta⟩,nx,e⟩,ho⟩:∃ o,oneL i (rst s i)=o:=⟨_,rfl⟩
   rw [ho] at H1 hb0 hg0 hl0
   simp only [oneR,Tok.av] at H1 hb0 hg0 hl0
   refine QF ?_
   refine Zb 28 Y Y Y (Ze (xs:=[.tmp 26,.tmp 27]) Y Y (H1) by3 ?_)
   refine Qbf ?_
   refine Qb2 ?_
   refine Qz ?_;intro b8
   refine Q6 ?_
   refine Qcu ?_
   refine Qao ?_;intro c33 h33
   refine Qa ?_
   obtain ⟨rfl,g33⟩|⟨rfl,g33⟩:=Za h33
   ·refine Q7 ?_
    have he:e=0:=Classical.not_not.1 g33
    have hl1:=hl0 he
    have hg1:=hg0 he
    obtain ⟨m,rfl⟩:∃ m:Nat,nx=m:=⟨nx.toNat,by omega⟩
    have hol2:=ovr_le false (rst s m)
    rw [rst_len] at hol2
    rw [rst_drop,show i+((m:Int) - i).toNat=m by omega,rst_drop] at hg1
    refine Qe ?_
    refine QbH ?_
    refine Zb 38 Y Y Y (Zd (xs:=[.tmp 37]) el_68 Y Y Y Y Y Y (Xm Y) (Zb 39 Y Y Y (Zr (i:=1) el_68 Y Y Y Y (.seq _ _) by8 ?_)))
    intro u39
    refine Qf ?_
    refine QF ?_
    refine Zb 42 Y Y Y (Ze (xs:=[.tmp 40,.tmp 41]) Y Y (over_c s hs m by18) by3 ?_)
    refine QaF ?_
    refine ⟨(m+ovr false (rst s m),f,acc++[⟨tk,tt,tn,ta⟩],u39),⟨(by show m+ovr false (rst s m)≤s.size;omega),(by show s.size - (m+ovr false (rst s m))<f;omega),by15,(by rw [hu,hg1];rfl)⟩,(by show s.size - (m+ovr false (rst s m))<s.size - i;omega),Xj Y (Xl (by simp [Tok.av,AV.cells])) by6,by5⟩
   refine Qh ?_
   refine QP ?_
   refine Qct ?_
   exact out_ttt (v':=scanR ([],e,i)) Y Y Y Y (Le.tup (Xi (Le.nil _) (Xh _))) by5 ⟨by rw [hu,hb0 g33],Y⟩
  refine QaP ?_
  refine Qct ?_
  exact out_ttt (v':=scanR ([],100,bd)) Y Y Y Y (Le.tup (Xi (Le.nil _) (Xh _))) by5 ⟨by rw [hO,if_pos by18],Y⟩
 omega
theorem Scan_c (s:ByteArray):PCall Tryz.prog 36 [.val (.string s)] (scanR (scanT s)):=by
 by_cases q:60000<s.size
 ·exact Scan_long s q
 exact Scan_short s by18
def psC (L:List Tok) (p:PS):List AV:=[.seq 4 (L.map Tok.av),.val (.int .i64 p.at_),.val (.int .i64 p.lv),.val (.int .i64 p.e),.val (.int .i64 p.wh)]
theorem next_c (b:Nat) (L:List Tok) (p:PS):KCall Tryz.prog 13 [.ptr b 0] [.loc b (psC L p)] (.agg (nxt L p).av):=by
 obtain ⟨a,lv,e,wh⟩:=p
 have hl:(L.map Tok.av).length=L.length:=List.length_map _
 simp only [psC]
 refine Zc Tryz.func13 Y (by kernel_rfl) Y (Xm Y) ?_
 refine Qn ?_
 refine Qz ?_;intro b2
 refine Qa ?_
 refine QL ?_
 refine c_boold 19 (e≠0∨L.length≤a) tmix Y ?_ _ _ Y ?_
 ·skip
  refine QR ?_
  refine Zu 4 Y Y (op_nilCheck_m Y Y ⟨Y,Y⟩) ?_
  refine Qbt ?_
  refine Qd8 ?_
  refine Yp 7 Y Y (fun _ q=>op_neq Y Y Y q) ?_;intro c7 h7
  refine QR ?_
  obtain ⟨rfl,g7⟩|⟨rfl,g7⟩:=Za h7
  ·skip
   refine Qb7 ?_
   refine Yq 10 Y Y Y Y (op_nilCheck_m Y Y ⟨Y,Y⟩) ?_
   refine QdG ?_
   refine Yq 12 Y Y Y Y (Yn (i:=1) Y ta_3 Y Y Y ⟨Y,Y⟩) ?_
   refine Qb7 ?_
   refine Yq 14 Y Y Y Y (op_nilCheck_m Y Y ⟨Y,Y⟩) ?_
   refine QdG ?_
   refine Yq 16 Y Y Y Y (Yn (i:=1) Y ta_68 Y Y Y ⟨Y,Y⟩) ?_
   refine Yq 17 Y Y Y Y (Yk Y tu_68 Y (.seq _ _) (fun _=>⟨Y,Y⟩)) ?_
   refine DOps.gtc 18 Y Y Y Y (fun _ q=>op_geq Y Y Y q) ?_;intro c18 h18
   refine QaK ?_
   show BoolQ _ _ _ _ _ _
   refine Xk Y ?_ by7 by5
   simp_all;done
  skip
  refine Qaf ?_
  refine Qaf ?_
  refine QaJ ?_
  refine QaJ ?_
  refine QaK ?_
  show BoolQ _ _ _ _ _ _
  refine Xk Y ?_ by7 by5
  simp_all;done
 intro c19 h19
 refine Qc ?_
 obtain ⟨rfl,g19⟩|⟨rfl,g19⟩:=Za h19
 ·refine Q7 ?_
  obtain ⟨t,ht⟩:=Zo (l:=L) (i:=a) by18
  have htc:(L.map Tok.av)[a]?=some t.av:=by rw [List.getElem?_map,ht];rfl
  refine Ya [0,1,2,3,4,5,6,7,8,9,10] [10] [[],[0],[0,1],[0,1,2],[],[4],[4,5],[4,5,6],[0,1,2,3,4,5,6,7],[0,1,2,3,4,5,6,7,8],[0,1,2,3,4,5,6,7,8,9]] tmix Y ?_
  refine Qp ?_
  refine QdH ?_
  refine Qcw ?_
  refine Qp ?_
  refine QdH ?_
  refine Qcw ?_
  refine Zh 29 (none) (i:=8) Y Y Y Y Y (Zq Y te_68 Y (.seq _ _) Y Y (htc) ⟨Y,Y⟩) ?_
  refine Zh 30 (none) (i:=9) Y Y Y Y Y (Zz (cs':=[_,_,_,_]) Y Yd Y Y Y ⟨Y,Y⟩) ?_
  refine Zs 0 (i:=10) Y Y Y Y Y (Zi (cs':=[_,_,_,_]) (i:=0) Y ts_72 Y Y Y Y Y (Xm Y) Y ⟨_,Y,?_⟩)
  show AGo _ _ _ _ _ _ _
  refine QX ?_
  first|refine Zn (i:=0) Y Y Y Yd Y (Xg _) by5 ⟨?_,Y⟩|refine Zn (i:=1) Y Y Y Yd Y (Xg _) by5 ⟨?_,Y⟩
  have hn:nxt L ⟨a,lv,e,wh⟩=t:=by
   unfold nxt
   rw [if_neg (fun q=>g19 (.inl q)),ht];rfl
  rw [hn];rfl
 refine Qag ?_
 refine QeY ?_
 refine Q6 ?_
 refine Ql ?_
 first|refine Zn (i:=0) Y Y Y Yd Y (Xg _) by5 ⟨?_,Y⟩|refine Zn (i:=1) Y Y Y Yd Y (Xg _) by5 ⟨?_,Y⟩
 have hn:nxt L ⟨a,lv,e,wh⟩=tok0 0:=by
  unfold nxt
  by_cases q:e≠0
  ·rw [if_pos q]
  rw [if_neg q,List.getElem?_eq_none (g19.resolve_left q)];rfl
 rw [hn];rfl
theorem is_p (b:Nat) (L:List Tok) (p:PS) (s:ByteArray):KBCall Tryz.prog 38 [.ptr b 0,.val (.string s)] [.loc b (psC L p)] (isP L p s=true):=by
 have HN:=next_c b L p
 have hI:isP L p s=true↔(6≤(nxt L p).k∧(nxt L p).t=s):=by unfold isP;simp
 generalize isP L p s=c at *
 generalize nxt L p=t at *
 obtain ⟨tk,tt,tn,ta⟩:=t
 simp only [Tok.av] at HN hI
 refine Zc Tryz.func38 Y (by kernel_rfl) Y (Xm Y) ?_
 refine Qcp ?_
 refine Zb 7 Y Y Y (Yi (xs:=[.tmp 6]) [0] Y Y Y (HN) by3 ?_)
 refine Qz ?_;intro b5
 refine Q6 ?_
 refine Qv ?_
 refine Zx 4 (6≤tk∧tt=s) ?_ _ _ Y ?_
 ·skip
  refine Qar ?_
  refine QcG ?_;intro c10 h10
  refine Qb ?_
  obtain ⟨rfl,g10⟩|⟨rfl,g10⟩:=Za h10
  ·skip
   refine Qm ?_
   refine QM ?_
   refine Xk Y ?_ by7 by5
   clear HN hI;first|(simp_all;done)|grind
  skip
  refine QaZ ?_
  refine Qd ?_
  refine Qd0 ?_;intro c15 h15
  refine QM ?_
  refine Xk Y ?_ by7 by5
  clear HN hI;first|(simp_all;done)|grind
 intro c4 h4
 refine QX ?_
 exact Zg Y Y (Xg _) by5 ⟨⟨_,h4.trans hI.symm,Y⟩,Y⟩
end Go.Proofs.YtefbicnoddggnaaGreat
namespace Go.Proofs.YtefbicnoddggnaaGreat
def POk (L:List Tok) (n:Nat) (p:PS):Prop:=p.at_≤L.length∧0≤p.lv∧p.lv≤301∧(p.e=0→301≤p.lv+n∧p.lv≤300)
def Adv (L:List Tok) (p p':PS):Prop:=p.at_≤p'.at_∧p'.at_≤L.length∧p.lv≤p'.lv∧p'.lv≤301∧(p'.e=0→p.e=0∧p'.lv=p.lv)
section
variable {L:List Tok} {n:Nat} {p p' p'':PS}
theorem Adv.trans (h:Adv L p p') (k:Adv L p' p''):Adv L p p'':=by
 unfold Adv at *;exact ⟨by omega,k.2.1,by omega,k.2.2.2.1,fun e=>⟨(h.2.2.2.2 (k.2.2.2.2 e).1).1,by rw [(k.2.2.2.2 e).2,(h.2.2.2.2 (k.2.2.2.2 e).1).2]⟩⟩
theorem Adv.ok (h:Adv L p p') (k:POk L n p):POk L n p':=by
 unfold Adv POk at *
 refine ⟨h.2.1,by omega,h.2.2.2.1,fun e=>?_⟩
 obtain ⟨e1,e2⟩:=h.2.2.2.2 e
 rw [e2];exact k.2.2.2 e1
theorem POk.refl (k:POk L n p):Adv L p p:=by
 unfold POk at k;exact ⟨Nat.le_refl _,k.1,Int.le_refl _,k.2.2.1,fun e=>⟨e,rfl⟩⟩
theorem POk.up {m:Nat} (k:POk L n p) (h:301≤m):POk L m p:=by
 unfold POk at *;exact ⟨k.1,k.2.1,k.2.2.1,fun e=>⟨by omega,(k.2.2.2 e).2⟩⟩
theorem is_k {s:ByteArray} (h:isP L p s=true):6≤(nxt L p).k∧(nxt L p).t=s:=by unfold isP at h;simpa using h
theorem is_lt {s:ByteArray} (h:isP L p s=true):p.e=0∧p.at_<L.length:=nxt_in (by have:=(is_k h).1;omega)
theorem Yv (k:POk L n p) (h:p.at_<L.length):Adv L p (stepP p):=by
 unfold POk at k;exact ⟨Nat.le_succ _,h,Int.le_refl _,k.2.2.1,fun e=>⟨e,rfl⟩⟩
theorem Zw {s:ByteArray} (k:POk L n p) (h:isP L p s=true):Adv L p (stepP p):=Yv k (is_lt h).2
theorem fail_ne {e wh:Int} (h:e≠0):(failP p e wh).e≠0:=by
 unfold failP;split
 ·exact h
 assumption
theorem fail_adv {e wh:Int} (k:POk L n p) (h:e≠0):Adv L p (failP p e wh):=by
 have h1:(failP p e wh).at_=p.at_:=by unfold failP;split <;> rfl
 have h2:(failP p e wh).lv=p.lv:=by unfold failP;split <;> rfl
 have h3:=fail_ne (p:=p) (wh:=wh) h
 unfold POk at k
 exact ⟨by omega,by omega,by omega,by omega,fun e=>absurd e h3⟩
theorem Zj {kind:Int} {s:ByteArray} (hk:kind≠0) (k:POk L n p):Adv L p (takeP L p kind s).2:=by
 unfold takeP
 by_cases q:p.e≠0
 ·rw [if_pos q];exact k.refl
 rw [if_neg q]
 by_cases q2:(kind<6∧(nxt L p).k≠kind)∨(6≤kind∧((nxt L p).k<6∨(nxt L p).t≠s))
 ·rw [if_pos q2];exact fail_adv k by17
 rw [if_neg q2];exact Yv k (nxt_in by18).2
theorem take_is {kind:Int} {s:ByteArray} (h:isP L p s=true) (hk:6≤kind):takeP L p kind s=(nxt L p,stepP p):=by
 obtain ⟨h1,h2⟩:=is_k h
 unfold takeP
 rw [if_neg (by rw [(is_lt h).1];simp),if_neg]
 rintro (q|q)
 ·omega
 rcases q.2 with q|q
 ·omega
 exact q h2
theorem take_k {kind:Int} {s:ByteArray} (h:(nxt L p).k=kind) (h0:kind≠0) (hk:kind<6):takeP L p kind s=(nxt L p,stepP p):=by
 unfold takeP
 rw [if_neg (by rw [(nxt_in (L:=L) (p:=p) by18).1];simp),if_neg]
 rintro (q|q)
 ·exact q.2 h
 omega
theorem deeper_ok (k:POk L (n+1) p) (he:p.e=0):POk L n (deeperP L p):=by
 unfold POk at *
 obtain ⟨k1,k2,k3,k4⟩:=k
 have k4:=k4 he
 unfold deeperP
 by_cases q:300<p.lv+1
 ·rw [if_pos q]
  have h3:=fail_ne (p:={ p with lv:=p.lv+1 }) (e:=111) (wh:=(nxt L { p with lv:=p.lv+1 }).a) by17
  have h1:∀ e wh,(failP { p with lv:=p.lv+1 } e wh).at_=p.at_:=fun e wh=>by unfold failP;split <;> rfl
  have h2:∀ e wh,(failP { p with lv:=p.lv+1 } e wh).lv=p.lv+1:=fun e wh=>by unfold failP;split <;> rfl
  exact ⟨by rw [h1];exact k1,by rw [h2];omega,by rw [h2];omega,fun e=>absurd e h3⟩
 rw [if_neg q]
 exact ⟨k1,by show 0≤p.lv+1;omega,by show p.lv+1≤301;omega,fun _=>⟨by show 301≤p.lv+1+n;omega,by show p.lv+1≤300;omega⟩⟩
theorem deeper_at:(deeperP L p).at_=p.at_∧(deeperP L p).lv=p.lv+1:=by
 unfold deeperP
 split
 ·exact ⟨by unfold failP;split <;> rfl,by unfold failP;split <;> rfl⟩
 exact ⟨Y,Y⟩
theorem dec_adv {r:PS} (he:p.e=0) (h:Adv L (deeperP L p) r):Adv L p (decP r):=by
 obtain ⟨d1,d2⟩:=deeper_at (L:=L) (p:=p)
 unfold Adv at *
 obtain ⟨h1,h2,h3,h4,h5⟩:=h
 refine ⟨by show p.at_≤r.at_;omega,h2,by show p.lv≤r.lv - 1;omega,by show r.lv - 1≤301;omega,fun e=>⟨he,?_⟩⟩
 have:=h5 e
 show r.lv - 1=p.lv
 omega
theorem name_adv (k:POk L n p):Adv L p (nameP L p).2:=by
 unfold nameP
 by_cases h:isP L p kLP=true
 ·rw [if_pos h]
  have a1:=Zw k h
  have a2:=Zj (kind:=5) (s:=kE) by17 (a1.ok k)
  exact (a1.trans a2).trans (Zj (kind:=7) by17 ((a1.trans a2).ok k))
 rw [if_neg h];exact Zj by17 k
theorem uppersL_adv:∀ (f:Nat) (p:PS) (acc:List ByteArray),POk L n p→Adv L p (uppersL L f p acc).2
 | 0,p,acc,k=>k.refl
 | f+1,p,acc,k=>by
  unfold uppersL
  by_cases h:isP L p kComma=true
  ·rw [if_pos h]
   have a1:=Zw k h
   have a2:=a1.trans (Zj (kind:=2) (s:=kE) by17 (a1.ok k))
   exact a2.trans (uppersL_adv f _ _ (a2.ok k))
  rw [if_neg h];exact k.refl
theorem uppers_adv (k:POk L n p):Adv L p (uppersP L p).2:=by
 have a1:=Zj (L:=L) (kind:=2) (s:=kE) by17 k
 exact a1.trans (uppersL_adv _ _ _ (a1.ok k))
section types
variable {T:PS→Ty × PS} (HT:∀ p,POk L n p→Adv L p (T p).2)
include HT
theorem atype_adv (k:POk L n p):Adv L p (atypeG L T p).2:=by
 unfold atypeG
 by_cases h:(nxt L p).k=2
 ·rw [if_pos h];exact Yv k (nxt_in by18).2
 by_cases h1:(nxt L p).k=1
 ·rw [if_neg h,if_pos h1];exact Yv k (nxt_in by18).2
 rw [if_neg h,if_neg h1]
 have a1:=Zj (L:=L) (kind:=7) (s:=kLP) by17 k
 by_cases h2:isP L (takeP L p 7 kLP).2 kRP=true
 ·rw [if_pos h2];exact a1.trans (Zw (a1.ok k) h2)
 rw [if_neg h2]
 have a2:=a1.trans (HT _ (a1.ok k))
 exact a2.trans (Zj by17 (a2.ok k))
theorem atype_lt (k:POk L n p) (hs:startsP L 0 p):p.at_+1≤(atypeG L T p).2.at_:=by
 unfold atypeG
 by_cases h:(nxt L p).k=2
 ·rw [if_pos h];exact Nat.le_refl _
 by_cases h1:(nxt L p).k=1
 ·rw [if_neg h,if_pos h1];exact Nat.le_refl _
 rw [if_neg h,if_neg h1]
 have hl:isP L p kLP=true:=by
  unfold startsP at hs
  rcases hs with q|q|q|q|q|q
  ·exact absurd q h1
  ·exact absurd q h
  ·exact q
  ·omega
  ·omega
  omega
 have e1:=take_is (kind:=7) hl by17
 rw [e1]
 have a1:=Zw k hl
 by_cases h2:isP L (stepP p) kRP=true
 ·rw [if_pos h2];have:=Zw (a1.ok k) h2;exact Nat.le_succ _
 rw [if_neg h2]
 have a2:=HT _ (a1.ok k)
 have a3:=a2.trans (Zj (kind:=7) (s:=kRP) by17 (a2.ok (a1.ok k)))
 exact a3.1
theorem typesL_adv:∀ (f:Nat) (p:PS) (acc:List Ty),POk L n p→Adv L p (typesL L T f p acc).2
 | 0,p,acc,k=>k.refl
 | f+1,p,acc,k=>by
  unfold typesL
  by_cases h:startsP L 0 p
  ·rw [if_pos h]
   have a1:=atype_adv HT k
   exact a1.trans (typesL_adv f _ _ (a1.ok k))
  rw [if_neg h];exact k.refl
theorem typeH_adv (k:POk L n p):Adv L p (typeH L T p).2:=by
 unfold typeH
 by_cases h:(nxt L p).k=2
 ·rw [if_pos h]
  have a1:=Yv k (nxt_in (L:=L) (p:=p) by18).2
  exact a1.trans (typesL_adv HT _ _ _ (a1.ok k))
 rw [if_neg h];exact atype_adv HT k
end types
theorem typeF_adv:∀ (n:Nat) (p:PS),POk L n p→Adv L p (typeF L n p).2
 | 0,p,k=>k.refl
 | n+1,p,k=>by
  unfold typeF
  by_cases he:p.e≠0
  ·rw [if_pos he];exact k.refl
  rw [if_neg he]
  have he:p.e=0:=Classical.not_not.1 he
  have kq:=deeper_ok k he
  have HT:=typeF_adv n
  have a1:=typeH_adv HT kq
  unfold typeR
  by_cases h:isP L (typeH L (typeF L n) (deeperP L p)).2 kArrow=true
  ·rw [if_pos h]
   have a2:=a1.trans (Zw (a1.ok kq) h)
   exact dec_adv he (a2.trans (HT _ (a2.ok kq)))
  rw [if_neg h];exact dec_adv he a1
theorem typeP_adv (k:POk L n p):Adv L p (typeP L p).2:=typeF_adv 302 p (k.up by17)
section pats
variable {T:PS→Pa × PS} (HT:∀ p,POk L n p→Adv L p (T p).2)
include HT
theorem apat_adv (k:POk L n p):Adv L p (apatG L T p).2:=by
 unfold apatG
 by_cases h:(nxt L p).k=2
 ·rw [if_pos h];exact Yv k (nxt_in by18).2
 by_cases h1:(nxt L p).k=1
 ·rw [if_neg h,if_pos h1];exact Yv k (nxt_in by18).2
 by_cases h3:(nxt L p).k=3
 ·rw [if_neg h,if_neg h1,if_pos h3];exact Yv k (nxt_in by18).2
 by_cases h4:isP L p kUn=true
 ·rw [if_neg h,if_neg h1,if_neg h3,if_pos h4];exact Zw k h4
 rw [if_neg h,if_neg h1,if_neg h3,if_neg h4]
 have a1:=Zj (L:=L) (kind:=7) (s:=kLP) by17 k
 by_cases h2:isP L (takeP L p 7 kLP).2 kRP=true
 ·rw [if_pos h2];exact a1.trans (Zw (a1.ok k) h2)
 rw [if_neg h2]
 have a2:=a1.trans (HT _ (a1.ok k))
 exact a2.trans (Zj by17 (a2.ok k))
theorem apat_lt (k:POk L n p) (hs:startsP L 1 p):p.at_+1≤(apatG L T p).2.at_:=by
 unfold apatG
 by_cases h:(nxt L p).k=2
 ·rw [if_pos h];exact Nat.le_refl _
 by_cases h1:(nxt L p).k=1
 ·rw [if_neg h,if_pos h1];exact Nat.le_refl _
 by_cases h3:(nxt L p).k=3
 ·rw [if_neg h,if_neg h1,if_pos h3];exact Nat.le_refl _
 by_cases h4:isP L p kUn=true
 ·rw [if_neg h,if_neg h1,if_neg h3,if_pos h4];exact Nat.le_refl _
 rw [if_neg h,if_neg h1,if_neg h3,if_neg h4]
 have hl:isP L p kLP=true:=by
  unfold startsP at hs
  rcases hs with q|q|q|q|q|q
  ·exact absurd q h1
  ·exact absurd q h
  ·exact q
  ·exact absurd q.2 h3
  ·exact absurd q.2 h4
  omega
 have e1:=take_is (kind:=7) hl by17
 rw [e1]
 have a1:=Zw k hl
 by_cases h2:isP L (stepP p) kRP=true
 ·rw [if_pos h2];exact Nat.le_succ _
 rw [if_neg h2]
 have a2:=HT _ (a1.ok k)
 have a3:=a2.trans (Zj (kind:=7) (s:=kRP) by17 (a2.ok (a1.ok k)))
 exact a3.1
theorem patsL_adv:∀ (f:Nat) (p:PS) (acc:List Pa),POk L n p→Adv L p (patsL L T f p acc).2
 | 0,p,acc,k=>k.refl
 | f+1,p,acc,k=>by
  unfold patsL
  by_cases h:startsP L 1 p
  ·rw [if_pos h]
   have a1:=apat_adv HT k
   exact a1.trans (patsL_adv f _ _ (a1.ok k))
  rw [if_neg h];exact k.refl
end pats
theorem patF_adv:∀ (n:Nat) (p:PS),POk L n p→Adv L p (patF L n p).2
 | 0,p,k=>k.refl
 | n+1,p,k=>by
  unfold patF
  by_cases he:p.e≠0
  ·rw [if_pos he];exact k.refl
  rw [if_neg he]
  have he:p.e=0:=Classical.not_not.1 he
  have kq:=deeper_ok k he
  have HT:=patF_adv n
  by_cases h:(nxt L (deeperP L p)).k=2
  ·rw [if_pos h]
   have a1:=Yv kq (nxt_in (L:=L) (p:=deeperP L p) by18).2
   exact dec_adv he (a1.trans (patsL_adv HT _ _ _ (a1.ok kq)))
  rw [if_neg h];exact dec_adv he (apat_adv HT kq)
theorem patP_adv (k:POk L n p):Adv L p (patP L p).2:=patF_adv 302 p (k.up by17)
end
section
variable {L:List Tok} {n:Nat} {p p' p'':PS}
section exps
variable {E:PS→Ex × PS} (HE:∀ p,POk L n p→Adv L p (E p).2)
include HE
theorem bindG_adv (k:POk L n p):Adv L p (bindG L E p).2:=by
 unfold bindG
 have a1:=name_adv k
 have a2:=a1.trans (Zj (kind:=7) (s:=kEq) by17 (a1.ok k))
 exact a2.trans (HE _ (a2.ok k))
theorem bindsL_adv:∀ (f:Nat) (p:PS) (acc:List Bi),POk L n p→Adv L p (bindsL L E f p acc).2
 | 0,p,acc,k=>k.refl
 | f+1,p,acc,k=>by
  unfold bindsL
  by_cases h:isP L p kAnd=true
  ·rw [if_pos h]
   have a1:=Zw k h
   have a2:=a1.trans (bindG_adv HE (a1.ok k))
   exact a2.trans (bindsL_adv f _ _ (a2.ok k))
  rw [if_neg h];exact k.refl
theorem lambda_adv:∀ (f:Nat) (p:PS) (a:Int),POk L n p→Adv L p (lambdaG L E f p a).2
 | 0,p,a,k=>k.refl
 | f+1,p,a,k=>by
  unfold lambdaG
  have a1:=Zj (L:=L) (kind:=1) (s:=kE) by17 k
  by_cases h:(nxt L (takeP L p 1 kE).2).k=1
  ·rw [if_pos h];exact a1.trans (lambda_adv f _ _ (a1.ok k))
  rw [if_neg h]
  have a2:=a1.trans (Zj (kind:=7) (s:=kArrow) by17 (a1.ok k))
  exact a2.trans (HE _ (a2.ok k))
theorem altG_adv (k:POk L n p):Adv L p (altG L E p).2:=by
 unfold altG
 have a1:=patP_adv k
 have a2:=a1.trans (Zj (kind:=7) (s:=kArrow) by17 (a1.ok k))
 exact a2.trans (HE _ (a2.ok k))
theorem altsL_adv:∀ (f:Nat) (p:PS) (acc:List Al),POk L n p→Adv L p (altsL L E f p acc).2
 | 0,p,acc,k=>k.refl
 | f+1,p,acc,k=>by
  unfold altsL
  by_cases he:p.e≠0
  ·rw [if_pos he];exact k.refl
  rw [if_neg he]
  have a1:=altG_adv HE k
  by_cases h:isP L (altG L E p).2 kBar=true
  ·rw [if_pos h]
   have a2:=a1.trans (Zw (a1.ok k) h)
   exact a2.trans (altsL_adv f _ _ (a2.ok k))
  rw [if_neg h];exact a1
theorem caseG_adv (a:Int) (k:POk L n p):Adv L p (caseG L E a p).2:=by
 have a1:=HE _ k
 have a2:=a1.trans (Zj (kind:=6) (s:=kOf) by17 (a1.ok k))
 have a3:=a2.trans (altsL_adv HE (L.length+1) _ [] (a2.ok k))
 exact a3.trans (Zj (kind:=6) (s:=kEnd) by17 (a3.ok k))
omit HE in
theorem annG_adv {a:Int} {x:Ex × PS} (k:POk L n p) (h:Adv L p x.2):Adv L p (annG L a x).2:=by
 unfold annG
 by_cases h1:isP L x.2 kColon=true
 ·rw [if_pos h1]
  have a1:=h.trans (Zw (h.ok k) h1)
  have a2:=a1.trans (typeP_adv (a1.ok k))
  exact a2.trans (Zj by17 (a2.ok k))
 rw [if_neg h1];exact h.trans (Zj by17 (h.ok k))
theorem atom_adv (k:POk L n p):Adv L p (atomG L E p).2:=by
 unfold atomG
 by_cases h1:(nxt L p).k=1
 ·rw [if_pos h1];exact Yv k (nxt_in by18).2
 by_cases h2:(nxt L p).k=2
 ·rw [if_neg h1,if_pos h2];exact Yv k (nxt_in by18).2
 by_cases h3:(nxt L p).k=3
 ·rw [if_neg h1,if_neg h2,if_pos h3];exact Yv k (nxt_in by18).2
 by_cases h4:(nxt L p).k=4
 ·rw [if_neg h1,if_neg h2,if_neg h3,if_pos h4];exact Yv k (nxt_in by18).2
 by_cases h5:isP L p kCase=true
 ·rw [if_neg h1,if_neg h2,if_neg h3,if_neg h4,if_pos h5]
  have a1:=Zw k h5
  exact a1.trans (caseG_adv HE _ (a1.ok k))
 rw [if_neg h1,if_neg h2,if_neg h3,if_neg h4,if_neg h5]
 have a1:=Zj (L:=L) (kind:=7) (s:=kLP) by17 k
 by_cases h6:isP L (takeP L p 7 kLP).2 kRP=true
 ·rw [if_pos h6];exact a1.trans (Zw (a1.ok k) h6)
 by_cases h7:(nxt L (takeP L p 7 kLP).2).k=5
 ·rw [if_neg h6,if_pos h7]
  have a2:=a1.trans (Zj (kind:=5) (s:=kE) by17 (a1.ok k))
  exact a2.trans (Zj by17 (a2.ok k))
 rw [if_neg h6,if_neg h7]
 exact annG_adv k (a1.trans (HE _ (a1.ok k)))
theorem atom_lt (k:POk L n p) (hs:startsP L 2 p):p.at_+1≤(atomG L E p).2.at_:=by
 unfold atomG
 by_cases h1:(nxt L p).k=1
 ·rw [if_pos h1];exact Nat.le_refl _
 by_cases h2:(nxt L p).k=2
 ·rw [if_neg h1,if_pos h2];exact Nat.le_refl _
 by_cases h3:(nxt L p).k=3
 ·rw [if_neg h1,if_neg h2,if_pos h3];exact Nat.le_refl _
 by_cases h4:(nxt L p).k=4
 ·rw [if_neg h1,if_neg h2,if_neg h3,if_pos h4];exact Nat.le_refl _
 by_cases h5:isP L p kCase=true
 ·rw [if_neg h1,if_neg h2,if_neg h3,if_neg h4,if_pos h5]
  have a1:=Zw k h5
  exact (caseG_adv HE _ (a1.ok k)).1
 rw [if_neg h1,if_neg h2,if_neg h3,if_neg h4,if_neg h5]
 have hl:isP L p kLP=true:=by
  unfold startsP at hs
  rcases hs with q|q|q|q|q|q
  ·exact absurd q h1
  ·exact absurd q h2
  ·exact q
  ·exact absurd q.2 h3
  ·omega
  rcases q.2 with q|q
  ·exact absurd q h4
  exact absurd q h5
 have e1:=take_is (kind:=7) hl by17
 rw [e1]
 have a1:=Zw k hl
 have k1:=a1.ok k
 by_cases h6:isP L (stepP p) kRP=true
 ·rw [if_pos h6];exact Nat.le_succ _
 by_cases h7:(nxt L (stepP p)).k=5
 ·rw [if_neg h6,if_pos h7]
  have a2:=Zj (L:=L) (kind:=5) (s:=kE) by17 k1
  have a3:=a2.trans (Zj (kind:=7) (s:=kRP) by17 (a2.ok k1))
  exact a3.1
 rw [if_neg h6,if_neg h7]
 exact (annG_adv (a:=(nxt L p).a) k1 (HE _ k1)).1
theorem appsL_adv (a:Int):∀ (f:Nat) (p:PS) (x:Ex),POk L n p→Adv L p (appsL L E a f p x).2
 | 0,p,x,k=>k.refl
 | f+1,p,x,k=>by
  unfold appsL
  by_cases h:startsP L 2 p
  ·rw [if_pos h]
   have a1:=atom_adv HE k
   exact a1.trans (appsL_adv a f _ _ (a1.ok k))
  rw [if_neg h];exact k.refl
theorem letG_adv (a m:Int) (k:POk L n p):Adv L p (letG L E a m p).2:=by
 have a1:=bindG_adv HE k
 have a2:=a1.trans (bindsL_adv HE (L.length+1) _ [(bindG L E p).1] (a1.ok k))
 have a3:=a2.trans (Zj (kind:=6) (s:=kIn) by17 (a2.ok k))
 exact a3.trans (HE _ (a3.ok k))
theorem ifG_adv (a:Int) (k:POk L n p):Adv L p (ifG L E a p).2:=by
 have a1:=HE _ k
 have a2:=a1.trans (Zj (kind:=6) (s:=kThen) by17 (a1.ok k))
 have a3:=a2.trans (HE _ (a2.ok k))
 have a4:=a3.trans (Zj (kind:=6) (s:=kElse) by17 (a3.ok k))
 exact a4.trans (HE _ (a4.ok k))
theorem operand_adv (k:POk L n p):Adv L p (operandG L E p).2:=by
 unfold operandG
 by_cases h1:isP L p kBack=true
 ·rw [if_pos h1]
  have a1:=Zw k h1
  exact a1.trans (lambda_adv HE _ _ _ (a1.ok k))
 by_cases h2:isP L p kLet=true
 ·rw [if_neg h1,if_pos h2]
  have a1:=Zw k h2
  by_cases h3:isP L (stepP p) kRec=true
  ·rw [if_pos h3]
   have a2:=a1.trans (Zw (a1.ok k) h3)
   exact a2.trans (letG_adv HE _ _ (a2.ok k))
  rw [if_neg h3];exact a1.trans (letG_adv HE _ _ (a1.ok k))
 by_cases h3:isP L p kIf=true
 ·rw [if_neg h1,if_neg h2,if_pos h3]
  have a1:=Zw k h3
  exact a1.trans (ifG_adv HE _ (a1.ok k))
 rw [if_neg h1,if_neg h2,if_neg h3]
 have a1:=atom_adv HE k
 exact a1.trans (appsL_adv HE _ _ _ _ (a1.ok k))
theorem opsL_adv:∀ (f:Nat) (p:PS) (l:List Ex) (o:List Tok),POk L n p→Adv L p (opsL L E f p l o).2
 | 0,p,l,o,k=>k.refl
 | f+1,p,l,o,k=>by
  unfold opsL
  by_cases h:(nxt L p).k=5
  ·rw [if_pos h]
   have a1:=Zj (L:=L) (kind:=5) (s:=kE) by17 k
   have a2:=a1.trans (operand_adv HE (a1.ok k))
   exact a2.trans (opsL_adv f _ _ _ (a2.ok k))
  rw [if_neg h];exact k.refl
end exps
theorem join_adv {y:(List Ex × List Tok) × PS} (k:POk L (n+1) p) (he:p.e=0) (h:Adv L (deeperP L p) y.2):Adv L p (joinE y).2:=by
 have kq:=deeper_ok k he
 obtain ⟨d1,d2⟩:=deeper_at (L:=L) (p:=p)
 unfold joinE
 by_cases h1:y.2.e≠0
 ·rw [if_pos h1]
  unfold Adv at *
  exact ⟨by dsimp only;omega,h.2.1,by dsimp only;omega,h.2.2.2.1,fun e=>absurd e h1⟩
 rw [if_neg h1]
 by_cases h2:0≤clashP y.1.2
 ·rw [if_pos h2]
  have a:=h.trans (fail_adv (e:=112) (wh:=((y.1.2[(clashP y.1.2).toNat]?).getD (tok0 0)).a) (h.ok kq) by17)
  have hn:=fail_ne (p:=y.2) (e:=112) (wh:=((y.1.2[(clashP y.1.2).toNat]?).getD (tok0 0)).a) by17
  unfold Adv at *
  exact ⟨by dsimp only;omega,a.2.1,by dsimp only;omega,a.2.2.2.1,fun e=>absurd e hn⟩
 rw [if_neg h2];exact dec_adv he h
theorem expF_adv:∀ (n:Nat) (p:PS),POk L n p→Adv L p (expF L n p).2
 | 0,p,k=>k.refl
 | n+1,p,k=>by
  unfold expF
  by_cases he:p.e≠0
  ·rw [if_pos he];exact k.refl
  rw [if_neg he]
  have he:p.e=0:=Classical.not_not.1 he
  have kq:=deeper_ok k he
  have HE:=expF_adv n
  have a1:=operand_adv HE kq
  exact join_adv k he (a1.trans (opsL_adv HE _ _ _ _ (a1.ok kq)))
theorem expP_adv (k:POk L n p):Adv L p (expP L p).2:=expF_adv 302 p (k.up by17)
theorem expP_adv':∀ p,POk L 302 p→Adv L p (expP L p).2:=fun _ k=>expP_adv k
theorem typeP_adv':∀ p,POk L 302 p→Adv L p (typeP L p).2:=fun _ k=>typeP_adv k
theorem bindP_adv (k:POk L 302 p):Adv L p (bindP L p).2:=bindG_adv expP_adv' k
theorem paramsL_adv:∀ (f:Nat) (p:PS) (acc:List ByteArray),POk L n p→Adv L p (paramsL L f p acc).2
 | 0,p,acc,k=>k.refl
 | f+1,p,acc,k=>by
  unfold paramsL
  by_cases h:(nxt L p).k=1
  ·rw [if_pos h]
   have a1:=Zj (L:=L) (kind:=1) (s:=kE) by17 k
   exact a1.trans (paramsL_adv f _ _ (a1.ok k))
  rw [if_neg h];exact k.refl
theorem con_adv (k:POk L 302 p):Adv L p (conP L p).2:=by
 have a1:=Zj (L:=L) (kind:=2) (s:=kE) by17 k
 exact a1.trans (typesL_adv typeP_adv' (L.length+1) _ [] (a1.ok k))
theorem consL_adv:∀ (f:Nat) (p:PS) (acc:List Cn),POk L 302 p→Adv L p (consL L f p acc).2
 | 0,p,acc,k=>k.refl
 | f+1,p,acc,k=>by
  unfold consL
  by_cases he:p.e≠0
  ·rw [if_pos he];exact k.refl
  rw [if_neg he]
  have a1:=con_adv k
  by_cases h:isP L (conP L p).2 kBar=true
  ·rw [if_pos h]
   have a2:=a1.trans (Zw (a1.ok k) h)
   exact a2.trans (consL_adv f _ _ (a2.ok k))
  rw [if_neg h];exact a1
theorem deriv_adv (k:POk L n p):Adv L p (derivP L p).2:=by
 unfold derivP
 by_cases h:isP L p kDeriv=true
 ·rw [if_pos h]
  have a1:=Zw k h
  have a2:=a1.trans (Zj (kind:=7) (s:=kLP) by17 (a1.ok k))
  have a3:=a2.trans (uppers_adv (a2.ok k))
  exact a3.trans (Zj by17 (a3.ok k))
 rw [if_neg h];exact k.refl
theorem data_adv (k:POk L 302 p):Adv L p (dataP L p).2:=by
 have a1:=Zj (L:=L) (kind:=2) (s:=kE) by17 k
 have a2:=a1.trans (paramsL_adv (L.length+1) _ [] (a1.ok k))
 have a3:=a2.trans (Zj (kind:=7) (s:=kEq) by17 (a2.ok k))
 have a4:=a3.trans (consL_adv (L.length+1) _ [] (a3.ok k))
 exact a4.trans (deriv_adv (a4.ok k))
theorem clsL_adv:∀ (f:Nat) (p:PS) (ms:List Me) (ds:List Bi),POk L 302 p→Adv L p (clsL L f p ms ds).2
 | 0,p,ms,ds,k=>k.refl
 | f+1,p,ms,ds,k=>by
  unfold clsL
  by_cases he:p.e≠0
  ·rw [if_pos he];exact k.refl
  rw [if_neg he]
  by_cases h:isP L p kEnd=true
  ·rw [if_pos h];exact Zw k h
  rw [if_neg h]
  by_cases h2:isP L p kDef=true
  ·rw [if_pos h2]
   have a1:=Zw k h2
   have a2:=a1.trans (bindP_adv (a1.ok k))
   have a3:=a2.trans (Zj (kind:=7) (s:=kSemi) by17 (a2.ok k))
   exact a3.trans (clsL_adv f _ _ _ (a3.ok k))
  rw [if_neg h2]
  have a1:=name_adv k
  have a2:=a1.trans (Zj (kind:=7) (s:=kColon) by17 (a1.ok k))
  have a3:=a2.trans (typeP_adv (a2.ok k))
  have a4:=a3.trans (Zj (kind:=7) (s:=kSemi) by17 (a3.ok k))
  exact a4.trans (clsL_adv f _ _ _ (a4.ok k))
theorem supers_adv (k:POk L n p):Adv L p (supersP L p).2:=by
 unfold supersP
 by_cases h:isP L p kFrom=true
 ·rw [if_pos h]
  have a1:=Zw k h
  exact a1.trans (uppers_adv (a1.ok k))
 rw [if_neg h];exact k.refl
theorem class_adv (k:POk L 302 p):Adv L p (classP L p).2:=by
 have a1:=Zj (L:=L) (kind:=2) (s:=kE) by17 k
 have a2:=a1.trans (Zj (kind:=1) (s:=kE) by17 (a1.ok k))
 have a3:=a2.trans (supers_adv (a2.ok k))
 have a4:=a3.trans (Zj (kind:=6) (s:=kWhere) by17 (a3.ok k))
 exact a4.trans (clsL_adv (L.length+1) _ [] [] (a4.ok k))
theorem pred_adv (k:POk L n p):Adv L p (predP L p).2:=by
 have a1:=Zj (L:=L) (kind:=2) (s:=kE) by17 k
 exact a1.trans (Zj (kind:=1) (s:=kE) by17 (a1.ok k))
theorem ctxL_adv:∀ (f:Nat) (p:PS) (acc:List Pr),POk L n p→Adv L p (ctxL L f p acc).2
 | 0,p,acc,k=>k.refl
 | f+1,p,acc,k=>by
  unfold ctxL
  by_cases he:p.e≠0
  ·rw [if_pos he];exact k.refl
  rw [if_neg he]
  have a1:=pred_adv k
  by_cases h:isP L (predP L p).2 kComma=true
  ·rw [if_pos h]
   have a2:=a1.trans (Zw (a1.ok k) h)
   exact a2.trans (ctxL_adv f _ _ (a2.ok k))
  rw [if_neg h];exact a1
theorem ctx_adv (k:POk L n p):Adv L p (ctxP L p).2:=by
 unfold ctxP
 by_cases h:isP L p kFrom=true
 ·rw [if_pos h]
  have a1:=Zw k h
  exact a1.trans (ctxL_adv _ _ _ (a1.ok k))
 rw [if_neg h];exact k.refl
theorem insL_adv:∀ (f:Nat) (p:PS) (bs:List Bi),POk L 302 p→Adv L p (insL L f p bs).2
 | 0,p,bs,k=>k.refl
 | f+1,p,bs,k=>by
  unfold insL
  by_cases he:p.e≠0
  ·rw [if_pos he];exact k.refl
  rw [if_neg he]
  by_cases h:isP L p kEnd=true
  ·rw [if_pos h];exact Zw k h
  rw [if_neg h]
  have a1:=Zj (L:=L) (kind:=6) (s:=kDef) by17 k
  have a2:=a1.trans (bindP_adv (a1.ok k))
  have a3:=a2.trans (Zj (kind:=7) (s:=kSemi) by17 (a2.ok k))
  exact a3.trans (insL_adv f _ _ (a3.ok k))
theorem inst_adv (k:POk L 302 p):Adv L p (instP L p).2:=by
 have a1:=Zj (L:=L) (kind:=2) (s:=kE) by17 k
 have a2:=a1.trans (atype_adv typeP_adv' (a1.ok k))
 have a3:=a2.trans (ctx_adv (a2.ok k))
 have a4:=a3.trans (Zj (kind:=6) (s:=kWhere) by17 (a3.ok k))
 exact a4.trans (insL_adv (L.length+1) _ [] (a4.ok k))
theorem decl_adv (x:Pg) (k:POk L 302 p):Adv L p (declP L p x).2:=by
 unfold declP
 by_cases h1:isP L p kData=true
 ·rw [if_pos h1];have a:=Zw k h1;exact a.trans (data_adv (a.ok k))
 by_cases h2:isP L p kClass=true
 ·rw [if_neg h1,if_pos h2];have a:=Zw k h2;exact a.trans (class_adv (a.ok k))
 by_cases h3:isP L p kInst=true
 ·rw [if_neg h1,if_neg h2,if_pos h3];have a:=Zw k h3;exact a.trans (inst_adv (a.ok k))
 rw [if_neg h1,if_neg h2,if_neg h3]
 have a1:=Zj (L:=L) (kind:=6) (s:=kDef) by17 k
 exact a1.trans (bindP_adv (a1.ok k))
end
open Go.RowKit
abbrev MCall (P:Program) (f:FuncId) (vs:List AV) (r:Res) (v:AV) (r':Res):Prop:=ACall P f vs [r] (fun u M'=>u=v∧M'=[r'])
abbrev MayCall (P:Program) (f:FuncId) (vs:List AV) (r:Res) (p:Prop) (r':Res):Prop:=ACall P f vs [r] (fun u M'=>(p∧u=.val (.bool true)∧M'=[r'])∨(¬ p∧u=.val (.bool false)∧M'=[r]))
section
variable {P:Program} {al:Sl} {M:Mem} {K:AV→Mem→Prop} {o:Oper}
theorem set_perm {M:Mem} {i:Nat} {r r':Res} (h:M[i]?=some r):(r'::M.eraseIdx i).Perm (M.set i r'):=by
 have hi:i<M.length:=get_lt h
 have:=perm_at (M:=M.set i r') (i:=i) (r:=r') (by simp [hi])
 rw [List.eraseIdx_set_eq] at this
 exact this.symm
theorem pick_one {M:Mem} {i:Nat} {r:Res} (h:M[i]?=some r):pick [i] M=some ([r],M.eraseIdx i):=by
 simp [pick,h]
theorem OpT.permd {K0:AV→Mem→Prop} (h:OpT P o al M K0) (q:∀ v M',K0 v M'→∃ M2,M'.Perm M2∧K v M2):OpT P o al M K:=by
 intro n B F Mf a w hi hs ro
 refine Oper.wpIn_mono ?_ (h n B F Mf a w hi hs ro)
 rintro a' w' ⟨u,v,M',F',h1,h2,h3,h4,h5,h6⟩
 obtain ⟨M2,hp,hk⟩:=q v M' h2
 exact ⟨u,v,M2,F',h1,hk,h3,h4,h5.perm (hp.append_right Mf),h6⟩
theorem Zf {f:FuncId} {xs:List Operand} {ts:Array TypeId} {vs vs':List AV} (i:Nat) {r r':Res} {v:AV} (ho:o.op=.call { callee:=.value (.func f),args:=xs.toArray,argTypes:=ts }) (hx:xs.mapM al.ev=some vs) (hm:M[i]?=some r) (hc:MCall P f vs' r v r') (hl:Les vs vs') (q:K v (M.set i r')):OpT P o al M K:=by
 refine OpT.permd (op_callat (K:=fun u M'=>u=v∧M'=r'::M.eraseIdx i) [i] ho hx (pick_one hm) hc hl ?_) ?_
 ·rintro u M' ⟨rfl,rfl⟩;exact ⟨rfl,rfl⟩
 rintro u M' ⟨rfl,rfl⟩;exact ⟨_,set_perm hm,q⟩
theorem op_mayc {f:FuncId} {xs:List Operand} {ts:Array TypeId} {vs vs':List AV} (i:Nat) {r r':Res} {p:Prop} (ho:o.op=.call { callee:=.value (.func f),args:=xs.toArray,argTypes:=ts }) (hx:xs.mapM al.ev=some vs) (hm:M[i]?=some r) (hc:MayCall P f vs' r p r') (hl:Les vs vs') (qt:p→K (.val (.bool true)) (M.set i r')) (qf:¬ p→K (.val (.bool false)) M):OpT P o al M K:=by
 refine OpT.permd (op_callat (K:=fun u M'=>(p∧u=.val (.bool true)∧M'=r'::M.eraseIdx i)∨(¬ p∧u=.val (.bool false)∧M'=r::M.eraseIdx i)) [i] ho hx (pick_one hm) hc hl ?_) ?_
 ·rintro u M' (⟨h,rfl,rfl⟩|⟨h,rfl,rfl⟩)
  ·exact .inl ⟨h,Y,Y⟩
  exact .inr ⟨h,Y,Y⟩
 rintro u M' (⟨h,rfl,rfl⟩|⟨h,rfl,rfl⟩)
 ·exact ⟨_,set_perm hm,qt h⟩
 exact ⟨_,(perm_at hm).symm,qf h⟩
theorem Le.nilOwn (m:Nat):Le (.val (.slice none 0 0)) (.own (.slice none 0 0) m []):=fun F u h=>by
 cases h;exact .own _ (.seq0 m none 0 (fun _=>rfl))
theorem Yb {ro:Option Nat} {n:Nat} {ks:List Kont} {Q:Exit→Sl→Mem→Prop} {c:Code} (e:TypeId) (m:Nat) (h:ACode ro P n c (after ro P n ks Q) al (M++[.own e m (.slice none 0 0)])):ACode ro P n c (after ro P n ks Q) al M:=fun B F Mf a w hi hs=>by
 refine h B F Mf a w ?_ hs
 refine (hi.ownNil e m).perm ?_
 have:(Res.own e m (.slice none 0 0)::(M++Mf)).Perm (M++Res.own e m (.slice none 0 0)::Mf):=List.perm_middle.symm
 simpa using this
def tyField (P:Program) (t:TypeId) (f:Nat):Option (TypeId × Nat) :=
 match P.underlying t with
 | some (.struct fs)=>match fs[f]? with
  | some g=>some (g.type,g.offset)
  | none=>none
 | _=>none
theorem op_field1 {x:Operand} {t ft:TypeId} {f fo:Nat} {cs:List AV} {v:AV} (ho:o.op=.field t x f) (ht:tyField P t f=some (ft,fo)) (ha:tyAgg P ft=some none) (hx:al.ev x=some (.agg cs)) (hc:cs[fo]?=some v) (q:K v M):OpT P o al M K :=
 OpT.plain fun n B F Mf ac w hi hs=>by
  have h:=hs.ev hx
  generalize hu:ac.eval x=u at h
  cases h with
  | agg h h1 =>
   rename_i vs
   obtain ⟨y,h2,h3⟩:=h.get hc
   refine ⟨y,_,?_,q,h3⟩
   unfold tyField at ht
   split at ht <;> first|(simp at ht;done)|skip
   rename_i fs hfs
   split at ht <;> first|(simp at ht;done)|skip
   rename_i g hg
   simp only [Option.some.injEq,Prod.mk.injEq] at ht
   obtain ⟨rfl,rfl⟩:=ht
   obtain ⟨a1,a2⟩:=tyAgg_none ha w
   simp [execOp,ho,hu,Instr.field,underlying,hfs,hg,part,asAgg,a1,h2]
end
theorem fail_c (b:Nat) (L:List Tok) (p:PS) (e wh:Int):MCall Tryz.prog 37 [.ptr b 0,.val (.int .i64 e),.val (.int .i64 wh)] (.loc b (psC L p)) (.tup []) (.loc b (psC L (failP p e wh))):=by
 obtain ⟨a,lv,e0,wh0⟩:=p
 have hf:failP ⟨a,lv,e0,wh0⟩ e wh=if e0=0 then ⟨a,lv,e,wh⟩ else ⟨a,lv,e0,wh0⟩:=rfl
 rw [hf]
 simp only [psC]
 refine Zc Tryz.func37 Y (by kernel_rfl) Y (Xm Y) ?_
 refine Q5 ?_
 refine QJ ?_
 refine Qah ?_
 refine QcE ?_
 refine Qj ?_;intro c10 h10
 refine Qa ?_
 obtain ⟨rfl,g10⟩|⟨rfl,g10⟩:=Za h10
 ·refine Qau ?_
  refine go_end ?_
  exact out_none Y (Xf (by simp [g10] <;> rfl)) ⟨Y,Y⟩
 refine Qh ?_
 refine QP ?_
 refine Qah ?_
 refine QdI ?_
 refine Qa ?_
 refine QF ?_
 refine Qah ?_
 refine QdI ?_
 refine Qac ?_
 refine go_end ?_
 exact out_none Y (Xf (by simp [g10] <;> rfl)) ⟨Y,Y⟩
theorem take_c (b:Nat) (L:List Tok) (hL:L.length≤100000) (p:PS) (hp:p.at_≤L.length) (kind:Int) (s:ByteArray):MCall Tryz.prog 18 [.ptr b 0,.val (.int .i64 kind),.val (.string s)] (.loc b (psC L p)) (.agg (takeP L p kind s).1.av) (.loc b (psC L (takeP L p kind s).2)):=by
 have HN:=next_c b L p
 have HF:=fail_c b L p 110 (nxt L p).a
 obtain ⟨t,ht⟩:∃ t,nxt L p=t:=⟨_,rfl⟩
 obtain ⟨r,hr⟩:∃ r,takeP L p kind s=r:=⟨_,rfl⟩
 have hr0:=hr
 unfold takeP at hr
 rw [ht] at HN HF hr
 rw [hr0]
 obtain ⟨a,lv,e0,wh0⟩:=p
 obtain ⟨tk,tt,tn,ta⟩:=t
 have hp:a≤L.length:=hp
 simp only [psC,Tok.av] at HN HF hr ⊢
 refine Zc Tryz.func18 Y (by kernel_rfl) Y (Xm Y) ?_
 refine Qn ?_
 refine Qz ?_;intro b6
 refine Qt ?_
 refine Zb 9 Y Y Y (Yi (xs:=[.tmp 8]) [1] Y Y Y (HN) by3 ?_)
 refine Qz ?_;intro b7
 refine QbX ?_
 refine QbZ ?_
 refine Qao ?_;intro c14 h14
 refine Qa ?_
 obtain ⟨rfl,g14⟩|⟨rfl,g14⟩:=Za h14
 ·refine QbT ?_
  refine Zx 38 ((kind<6∧tk≠kind)∨(6≤kind∧(tk<6∨tt≠s))) ?_ _ _ Y ?_
  ·skip
   refine Qb ?_
   refine Qk ?_;intro c17 h17
   refine Qb ?_
   obtain ⟨rfl,g17⟩|⟨rfl,g17⟩:=Za h17
   ·skip
    refine Qm ?_
    refine Qq ?_
    refine Qd ?_
    refine Qd4 ?_;intro c26 h26
    refine Qd ?_
    obtain ⟨rfl,g26⟩|⟨rfl,g26⟩:=Za h26
    ·skip
     refine Qm ?_
     refine Qa8 ?_
     refine Qbw ?_
     refine Qg ?_
     refine Xk Y ?_ by7 by5
     clear HN HF hr;first|(simp_all;done)|grind
    skip
    refine QaZ ?_
    refine Qdf ?_;intro c30 h30
    refine Qd ?_
    obtain ⟨rfl,g30⟩|⟨rfl,g30⟩:=Za h30
    ·skip
     refine QaZ ?_
     refine Qd ?_
     refine QcH ?_;intro c35 h35
     refine Qbe ?_
     refine Xk Y ?_ by7 by5
     clear HN HF hr;first|(simp_all;done)|grind
    skip
    refine Qm ?_
    refine Qbe ?_
    refine Xk Y ?_ by7 by5
    clear HN HF hr;first|(simp_all;done)|grind
   skip
   refine QaZ ?_
   refine Qd ?_
   refine QaD ?_;intro c22 h22
   refine Qq ?_
   obtain ⟨rfl,g22⟩|⟨rfl,g22⟩:=Za h22
   ·skip
    refine Qd ?_
    refine Qd4 ?_;intro c26 h26
    refine Qd ?_
    obtain ⟨rfl,g26⟩|⟨rfl,g26⟩:=Za h26
    ·skip
     refine Qm ?_
     refine Qa8 ?_
     refine Qbw ?_
     refine Qg ?_
     refine Xk Y ?_ by7 by5
     clear HN HF hr;first|(simp_all;done)|grind
    skip
    refine QaZ ?_
    refine Qdf ?_;intro c30 h30
    refine Qd ?_
    obtain ⟨rfl,g30⟩|⟨rfl,g30⟩:=Za h30
    ·skip
     refine QaZ ?_
     refine Qd ?_
     refine QcH ?_;intro c35 h35
     refine Qbe ?_
     refine Xk Y ?_ by7 by5
     clear HN HF hr;first|(simp_all;done)|grind
    skip
    refine Qm ?_
    refine Qbe ?_
    refine Xk Y ?_ by7 by5
    clear HN HF hr;first|(simp_all;done)|grind
   skip
   refine Qcq ?_
   refine Qa8 ?_
   refine QcY ?_
   refine QZ ?_
   refine Qg ?_
   refine Xk Y ?_ by7 by5
   clear HN HF hr;first|(simp_all;done)|grind
  intro c38 h38
  refine Qc ?_
  obtain ⟨rfl,g38⟩|⟨rfl,g38⟩:=Za h38
  ·refine QY ?_
   refine QbZ ?_
   refine Qcx ?_
   refine Qc5 ?_
   refine QA ?_
   refine QbH ?_
   refine Qb3 ?_
   refine Ql ?_
   rw [if_neg g14,if_neg g38] at hr;subst hr;exact Zn (i:=1) rfl rfl rfl Yd rfl (Xg _) (Xd _ (Xd _ (Xf rfl))) ⟨rfl,rfl⟩
  refine QaP ?_
  refine Qar ?_
  refine Zb 42 Y Y Y (Zf (xs:=[.tmp 39,.const (.int .i64 110),.tmp 41]) (i:=2) Y Y Y (HF) by3 ?_)
  refine QA ?_
  refine QeY ?_
  refine Qb3 ?_
  refine Ql ?_
  rw [if_neg g14,if_pos g38] at hr;subst hr;exact Zn (i:=1) rfl rfl rfl Yd rfl (Xg _) by5 ⟨rfl,rfl⟩
 refine Qag ?_
 refine QbH ?_
 refine Qb3 ?_
 refine Ql ?_
 rw [if_pos g14] at hr;subst hr;exact Zn (i:=1) rfl rfl rfl Yd rfl (Xg _) by5 ⟨rfl,rfl⟩
theorem may_c (b:Nat) (L:List Tok) (hL:L.length≤100000) (p:PS) (s:ByteArray):MayCall Tryz.prog 14 [.ptr b 0,.val (.string s)] (.loc b (psC L p)) (isP L p s=true) (.loc b (psC L (stepP p))):=by
 have HI:=is_p b L p s
 have hl:=is_lt (L:=L) (p:=p) (s:=s)
 obtain ⟨a,lv,e0,wh0⟩:=p
 simp only [psC] at HI hl ⊢
 refine Zc Tryz.func14 Y (by kernel_rfl) Y (Xm Y) ?_
 refine Qa7 ?_
 refine Qal ?_
 refine Zb 7 Y Y Y (op_callkb (xs:=[.tmp 5,.tmp 6]) [0] Y Y Y (HI) by3 ?_);intro c7 h7
 refine Qaj ?_;intro c8 h8
 try replace h8:=nott h8 h7
 refine Qa ?_
 obtain ⟨rfl,g8⟩|⟨rfl,g8⟩:=Za h8
 ·refine Q7 ?_
  have:=hl (Classical.not_not.1 g8)
  refine Qe ?_
  refine Qah ?_
  refine QcE ?_
  refine Qcx ?_
  refine QdI ?_
  refine Qa ?_
  refine QK ?_
  exact c_ret (Zg Y Y (Xg _) (Xf Y) (.inl ⟨Classical.not_not.1 g8,Y,Y⟩))
 refine Qr ?_
 exact Zg Y Y (Xg _) (MLe.refl _) (.inr ⟨g8,Y,Y⟩)
theorem deeper_c (b:Nat) (L:List Tok) (p:PS) (h1:0≤p.lv) (h2:p.lv≤1000):MCall Tryz.prog 71 [.ptr b 0] (.loc b (psC L p)) (.tup []) (.loc b (psC L (deeperP L p))):=by
 have HN:=next_c b L { p with lv:=p.lv+1 }
 have HF:=fail_c b L { p with lv:=p.lv+1 } 111 (nxt L { p with lv:=p.lv+1 }).a
 obtain ⟨t,ht⟩:∃ t,nxt L { p with lv:=p.lv+1 }=t:=⟨_,rfl⟩
 obtain ⟨r,hr⟩:∃ r,deeperP L p=r:=⟨_,rfl⟩
 have hr0:=hr
 unfold deeperP at hr
 rw [ht] at HN HF hr
 rw [hr0]
 obtain ⟨a,lv,e0,wh0⟩:=p
 obtain ⟨tk,tt,tn,ta⟩:=t
 simp only [psC,Tok.av] at HN HF hr h1 h2 ⊢
 refine Zc Tryz.func71 Y (by kernel_rfl) Y (Xm Y) ?_
 refine Q5 ?_
 refine QJ ?_
 refine Qah ?_
 refine QcE ?_
 refine Qcx ?_
 refine QdI ?_
 refine Qt ?_
 refine Qah ?_
 refine QcE ?_
 refine Q0 ?_;intro c13 h13
 refine Qa ?_
 obtain ⟨rfl,g13⟩|⟨rfl,g13⟩:=Za h13
 ·refine Qau ?_
  refine go_end ?_
  rw [if_neg by18] at hr;subst hr;exact out_none rfl (Xf rfl) ⟨rfl,rfl⟩
 refine Qh ?_
 refine QF ?_
 refine Zb 16 Y Y Y (Yi (xs:=[.tmp 15]) [0] Y Y Y (HN) by3 ?_)
 refine Zb 17 Y Y Y (op_field1 (ft:=3) (fo:=3) Y (by kernel_rfl) ta_3 Y Y ?_)
 refine Zb 18 Y Y Y (Zf (xs:=[.tmp 14,.const (.int .i64 111),.tmp 17]) (i:=0) Y Y Y (HF) by3 ?_)
 refine Qac ?_
 refine go_end ?_
 rw [if_pos by18] at hr;subst hr;exact out_none rfl (Xf rfl) ⟨rfl,rfl⟩
theorem pName_c (b:Nat) (L:List Tok) (hL:L.length≤100000) (n:Nat) (p:PS) (k:POk L n p):MCall Tryz.prog 42 [.ptr b 0] (.loc b (psC L p)) (.agg (nameP L p).1.av) (.loc b (psC L (nameP L p).2)):=by
 refine Zc Tryz.func42 Y (by kernel_rfl) Y (Xm Y) ?_
 refine Qn ?_
 refine Qz ?_;intro b2
 refine Q2 ?_
 refine Zb 5 Y Y Y (op_mayc (xs:=[.tmp 4,.const (.string ⟨#[40]⟩)]) (i:=1) Y Y Y (may_c b L hL p kLP) by3 ?_ ?_)
 ·intro g5
  refine Qa ?_
  refine QaG ?_
  have a1:=Zw k g5
  have k1:=a1.ok k
  have a2:=Zj (kind:=5) (s:=kE) by17 k1
  have k2:=a2.ok k1
  refine Qe ?_
  refine Zb 7 Y Y Y (Zf (xs:=[.tmp 6,.const (.int .i64 5),.const (.string ⟨#[]⟩)]) (i:=1) Y Y Y (take_c b L hL _ k1.1 5 kE) by3 ?_)
  refine Qz ?_;intro b3
  refine Q6 ?_
  refine Qt ?_
  refine Zb 9 Y Y Y (Zf (xs:=[.tmp 8,.const (.int .i64 7),.const (.string ⟨#[41]⟩)]) (i:=2) Y Y Y (take_c b L hL _ k2.1 7 kRP) by3 ?_)
  refine QA ?_
  refine QbH ?_
  refine Qb3 ?_
  refine Ql ?_
  rw [nameP,if_pos g5];exact Zn (i:=1) rfl rfl rfl Yd rfl (Xg _) (Xd _ (Xd _ (Xf rfl))) ⟨rfl,rfl⟩
 intro g5
 refine Qa ?_
 refine QY ?_
 refine Zb 12 Y Y Y (Zf (xs:=[.tmp 11,.const (.int .i64 1),.const (.string ⟨#[]⟩)]) (i:=1) Y Y Y (take_c b L hL _ k.1 1 kE) by3 ?_)
 refine Q6 ?_
 refine Ql ?_
 rw [nameP,if_neg g5];exact Zn (i:=0) rfl rfl rfl Yd rfl (Xg _) (Xd _ (Xf rfl)) ⟨rfl,rfl⟩
theorem uppersL_go {L:List Tok} {f:Nat} {p:PS} {acc:List ByteArray} (h:isP L p kComma=true):uppersL L (f+1) p acc=uppersL L f (takeP L (stepP p) 2 kE).2 (acc++[(takeP L (stepP p) 2 kE).1.t]):=by rw [uppersL,if_pos h]
theorem uppersL_end {L:List Tok} {f:Nat} {p:PS} {acc:List ByteArray} (h:¬ isP L p kComma=true):uppersL L f p acc=(acc,p):=by
 cases f with
 | zero=>rfl
 | succ f=>rw [uppersL,if_neg h]
theorem uppers_c (b:Nat) (L:List Tok) (hL:L.length≤100000) (n:Nat) (p:PS) (k:POk L n p):MCall Tryz.prog 41 [.ptr b 0] (.loc b (psC L p)) (.seq 1 (strs (uppersP L p).1)) (.loc b (psC L (uppersP L p).2)):=by
 have a1:=Zj (L:=L) (kind:=2) (s:=kE) by17 k
 have k1:=a1.ok k
 have hE:uppersP L p=uppersL L (L.length+1) (takeP L p 2 kE).2 [(takeP L p 2 kE).1.t]:=rfl
 refine Zc Tryz.func41 Y (by kernel_rfl) Y (Xm Y) ?_
 refine Qcp ?_
 refine Zb 5 Y Y Y (Zf (xs:=[.tmp 4,.const (.int .i64 2),.const (.string ⟨#[]⟩)]) (i:=0) Y Y Y (take_c b L hL _ k.1 2 kE) by3 ?_)
 refine QdJ ?_
 refine Zb 7 Y Y Y (Yy (xs:=[.tmp 6]) el_31 Y Y Y Y Y Y (Xm Y) ?_);intro u7
 refine Qf ?_
 refine Qa6 ?_
 apply Ye (rg [(1,1),(3,13)]) (σ:=PS × Nat × List ByteArray × Value) (fun zz=>match zz with|(q,f,acc,u)=>[(3,.own u 1 (strs acc))]) (fun zz=>match zz with|(q,f,acc,u)=>[.own 9 1 u,.loc b (psC L q)]) (fun zz=>match zz with|(q,f,acc,u)=>POk L n q∧L.length - q.at_<f∧acc.length≤q.at_+1∧uppersP L p=uppersL L f q acc) (fun zz=>match zz with|(q,f,acc,u)=>f) (((takeP L p 2 kE).2,L.length+1,[(takeP L p 2 kE).1.t],u7))
 ·repeat' (first|exact Xp|apply Xn rfl|apply Xo rfl)
 ·exact ⟨k1,by omega,by simp,hE⟩
 ·exact by6
 ·exact by5
 rintro ⟨q,f,acc,u⟩ hI
 try dsimp only [List.cons_append,List.nil_append] at hI ⊢
 obtain ⟨h1,h2,h3,hu⟩:=hI
 have hq1:=h1.1
 have hle:(strs acc).length≤200000:=by rw [Yz];omega
 refine Qw ?_
 refine Zb 9 Y Y Y (op_mayc (xs:=[.tmp 8,.const (.string ⟨#[44]⟩)]) (i:=1) Y Y Y (may_c b L hL q kComma) by3 ?_ ?_)
 ·intro g9
  refine Qa ?_
  refine Qab ?_
  obtain ⟨f,rfl⟩:∃ f',f=f'+1:=⟨f - 1,by omega⟩
  rw [uppersL_go g9] at hu
  have b1:=Zw h1 g9
  have l1:=b1.ok h1
  have b2:=Zj (kind:=2) (s:=kE) by17 l1
  have l2:=b2.ok l1
  have b3:(stepP q).at_≤_:=b2.1
  have b4:(stepP q).at_=q.at_+1:=rfl
  have b5:=(is_lt g9).2
  have HT:=take_c b L hL _ l1.1 2 kE
  obtain ⟨⟨t2,q2⟩,e2⟩:∃ r,takeP L (stepP q) 2 kE=r:=⟨_,rfl⟩
  rw [e2] at HT hu l2 b3
  simp only [Tok.av] at HT hu l2 b3
  refine QF ?_
  refine Zb 12 Y Y Y (Zf (xs:=[.tmp 11,.const (.int .i64 2),.const (.string ⟨#[]⟩)]) (i:=1) Y Y Y (HT) by3 ?_)
  refine QdJ ?_
  refine Zb 14 Y Y Y (Zd (xs:=[.tmp 13]) el_31 Y Y Y Y Y Y (Xm Y) (Zb 15 Y Y Y (Zr (i:=0) el_31 Y Y Y Y (.seq _ _) by8 ?_)))
  intro u15
  refine QaF ?_
  refine ⟨(q2,f,acc++[t2.t],u15),⟨l2,(by show L.length - q2.at_<f;omega),(by show (acc++[t2.t]).length≤q2.at_+1;rw [List.length_append];simp;omega),hu⟩,Nat.lt_succ_self f,Xj Y (Xl (by simp [strs,AV.cells])) by6,by5⟩
 intro g9
 refine Qa ?_
 refine Qcn ?_
 refine Qs ?_
 rw [uppersL_end g9] at hu;rw [hu];exact Zg rfl rfl (Le.own_seq rfl) (Xd _ (MLe.refl _)) ⟨rfl,rfl⟩
theorem starts_c (b:Nat) (L:List Tok) (p:PS) (what:Int):KBCall Tryz.prog 39 [.ptr b 0,.val (.int .i64 what)] [.loc b (psC L p)] (startsP L what p):=by
 have HN:=next_c b L p
 have H1:=is_p b L p kLP
 have H2:=is_p b L p kUn
 have H3:=is_p b L p kCase
 unfold startsP
 generalize isP L p kLP=x1 at *
 generalize isP L p kUn=x2 at *
 generalize isP L p kCase=x3 at *
 obtain ⟨⟨tk,tt,tn,ta⟩,ht⟩:∃ t,nxt L p=t:=⟨_,rfl⟩
 rw [ht] at HN ⊢
 simp only [Tok.av] at HN ⊢
 refine Zc Tryz.func39 Y (by kernel_rfl) Y (Xm Y) ?_
 refine Qcp ?_
 refine Zb 7 Y Y Y (Yi (xs:=[.tmp 6]) [0] Y Y Y (HN) by3 ?_)
 refine QcT ?_
 refine Qba ?_
 refine Zx 18 (tk=1∨tk=2∨x1=true) ?_ _ _ Y ?_
 ·skip
  refine QbV ?_;intro c10 h10
  refine Qb ?_
  obtain ⟨rfl,g10⟩|⟨rfl,g10⟩:=Za h10
  ·skip
   refine QU ?_;intro c13 h13
   refine Qq ?_
   obtain ⟨rfl,g13⟩|⟨rfl,g13⟩:=Za h13
   ·skip
    refine Qd ?_
    refine Zm 17 Y Y Y Y Y (op_callkb (xs:=[.tmp 16,.const (.string ⟨#[40]⟩)]) [0] Y Y Y (H1) by3 ?_);intro c17 h17
    refine Qg ?_
    refine Xk Y ?_ by7 by5
    clear HN H1 H2 H3;first|(simp_all;done)|grind
   skip
   refine Qai ?_
   refine Xk Y ?_ by7 by5
   clear HN H1 H2 H3;first|(simp_all;done)|grind
  skip
  refine Qbd ?_
  refine Qai ?_
  refine Xk Y ?_ by7 by5
  clear HN H1 H2 H3;first|(simp_all;done)|grind
 intro c18 h18
 refine Qc ?_
 obtain ⟨rfl,g18⟩|⟨rfl,g18⟩:=Za h18
 ·refine Q7 ?_
  refine Zx 4 ((1≤what∧tk=3)∨(what=1∧x2=true)∨(what=2∧(tk=4∨x3=true))) ?_ _ _ Y ?_
  ·skip
   refine Qco ?_;intro c20 h20
   refine Qb ?_
   obtain ⟨rfl,g20⟩|⟨rfl,g20⟩:=Za h20
   ·skip
    refine Qbd ?_
    refine QU ?_;intro c27 h27
    refine Qd ?_
    obtain ⟨rfl,g27⟩|⟨rfl,g27⟩:=Za h27
    ·skip
     refine Qad ?_
     refine QV ?_
     refine Qq ?_
     refine QU ?_;intro c35 h35
     refine Qd ?_
     obtain ⟨rfl,g35⟩|⟨rfl,g35⟩:=Za h35
     ·skip
      refine QaL ?_
      refine QaW ?_
      refine Qbw ?_
      refine QM ?_
      refine Xk Y ?_ by7 by5
      clear HN H1 H2 H3;first|(simp_all;done)|grind
     skip
     refine QU ?_;intro c38 h38
     refine Qd ?_
     obtain ⟨rfl,g38⟩|⟨rfl,g38⟩:=Za h38
     ·skip
      refine Qd ?_
      refine Zm 41 Y Y Y Y Y (op_callkb (xs:=[.tmp 40,.const (.string ⟨#[99,97,115,101]⟩)]) [0] Y Y Y (H3) by3 ?_);intro c41 h41
      refine Qb0 ?_
      refine Xk Y ?_ by7 by5
      clear HN H1 H2 H3;first|(simp_all;done)|grind
     skip
     refine Qad ?_
     refine Qb0 ?_
     refine Xk Y ?_ by7 by5
     clear HN H1 H2 H3;first|(simp_all;done)|grind
    skip
    refine Qd ?_
    refine Zm 30 Y Y Y Y Y (op_callkb (xs:=[.tmp 29,.const (.string ⟨#[95]⟩)]) [0] Y Y Y (H2) by3 ?_);intro c30 h30
    refine QV ?_
    refine Qq ?_
    obtain ⟨rfl,g30⟩|⟨rfl,g30⟩:=Za h30
    ·skip
     refine QU ?_;intro c35 h35
     refine Qd ?_
     obtain ⟨rfl,g35⟩|⟨rfl,g35⟩:=Za h35
     ·skip
      refine QaL ?_
      refine QaW ?_
      refine Qbw ?_
      refine QM ?_
      refine Xk Y ?_ by7 by5
      clear HN H1 H2 H3;first|(simp_all;done)|grind
     skip
     refine QU ?_;intro c38 h38
     refine Qd ?_
     obtain ⟨rfl,g38⟩|⟨rfl,g38⟩:=Za h38
     ·skip
      refine Qd ?_
      refine Zm 41 Y Y Y Y Y (op_callkb (xs:=[.tmp 40,.const (.string ⟨#[99,97,115,101]⟩)]) [0] Y Y Y (H3) by3 ?_);intro c41 h41
      refine Qb0 ?_
      refine Xk Y ?_ by7 by5
      clear HN H1 H2 H3;first|(simp_all;done)|grind
     skip
     refine Qad ?_
     refine Qb0 ?_
     refine Xk Y ?_ by7 by5
     clear HN H1 H2 H3;first|(simp_all;done)|grind
    skip
    refine Qcq ?_
    refine QaW ?_
    refine QZ ?_
    refine QM ?_
    refine Xk Y ?_ by7 by5
    clear HN H1 H2 H3;first|(simp_all;done)|grind
   skip
   refine QU ?_;intro c23 h23
   refine Qq ?_
   obtain ⟨rfl,g23⟩|⟨rfl,g23⟩:=Za h23
   ·skip
    refine QU ?_;intro c27 h27
    refine Qd ?_
    obtain ⟨rfl,g27⟩|⟨rfl,g27⟩:=Za h27
    ·skip
     refine Qad ?_
     refine QV ?_
     refine Qq ?_
     refine QU ?_;intro c35 h35
     refine Qd ?_
     obtain ⟨rfl,g35⟩|⟨rfl,g35⟩:=Za h35
     ·skip
      refine QaL ?_
      refine QaW ?_
      refine Qbw ?_
      refine QM ?_
      refine Xk Y ?_ by7 by5
      clear HN H1 H2 H3;first|(simp_all;done)|grind
     skip
     refine QU ?_;intro c38 h38
     refine Qd ?_
     obtain ⟨rfl,g38⟩|⟨rfl,g38⟩:=Za h38
     ·skip
      refine Qd ?_
      refine Zm 41 Y Y Y Y Y (op_callkb (xs:=[.tmp 40,.const (.string ⟨#[99,97,115,101]⟩)]) [0] Y Y Y (H3) by3 ?_);intro c41 h41
      refine Qb0 ?_
      refine Xk Y ?_ by7 by5
      clear HN H1 H2 H3;first|(simp_all;done)|grind
     skip
     refine Qad ?_
     refine Qb0 ?_
     refine Xk Y ?_ by7 by5
     clear HN H1 H2 H3;first|(simp_all;done)|grind
    skip
    refine Qd ?_
    refine Zm 30 Y Y Y Y Y (op_callkb (xs:=[.tmp 29,.const (.string ⟨#[95]⟩)]) [0] Y Y Y (H2) by3 ?_);intro c30 h30
    refine QV ?_
    refine Qq ?_
    obtain ⟨rfl,g30⟩|⟨rfl,g30⟩:=Za h30
    ·skip
     refine QU ?_;intro c35 h35
     refine Qd ?_
     obtain ⟨rfl,g35⟩|⟨rfl,g35⟩:=Za h35
     ·skip
      refine QaL ?_
      refine QaW ?_
      refine Qbw ?_
      refine QM ?_
      refine Xk Y ?_ by7 by5
      clear HN H1 H2 H3;first|(simp_all;done)|grind
     skip
     refine QU ?_;intro c38 h38
     refine Qd ?_
     obtain ⟨rfl,g38⟩|⟨rfl,g38⟩:=Za h38
     ·skip
      refine Qd ?_
      refine Zm 41 Y Y Y Y Y (op_callkb (xs:=[.tmp 40,.const (.string ⟨#[99,97,115,101]⟩)]) [0] Y Y Y (H3) by3 ?_);intro c41 h41
      refine Qb0 ?_
      refine Xk Y ?_ by7 by5
      clear HN H1 H2 H3;first|(simp_all;done)|grind
     skip
     refine Qad ?_
     refine Qb0 ?_
     refine Xk Y ?_ by7 by5
     clear HN H1 H2 H3;first|(simp_all;done)|grind
    skip
    refine Qcq ?_
    refine QaW ?_
    refine QZ ?_
    refine QM ?_
    refine Xk Y ?_ by7 by5
    clear HN H1 H2 H3;first|(simp_all;done)|grind
   skip
   refine QaL ?_
   refine QaW ?_
   refine QZ ?_
   refine Qq ?_
   refine Qcq ?_
   refine QaW ?_
   refine QZ ?_
   refine QM ?_
   refine Xk Y ?_ by7 by5
   clear HN H1 H2 H3;first|(simp_all;done)|grind
  intro c4 h4
  refine QX ?_
  exact Zg Y Y (Xg _) (MLe.refl _) ⟨⟨_,by clear HN H1 H2 H3;grind,Y⟩,Y⟩
 refine Qr ?_
 exact Zg Y Y (Xg _) (MLe.refl _) ⟨⟨_,by clear HN H1 H2 H3;grind,Y⟩,Y⟩
theorem typesL_go {L:List Tok} {T:PS→Ty × PS} {f:Nat} {p:PS} {acc:List Ty} (h:startsP L 0 p):typesL L T (f+1) p acc=typesL L T f (atypeG L T p).2 (acc++[(atypeG L T p).1]):=by rw [typesL,if_pos h]
theorem typesL_end {L:List Tok} {T:PS→Ty × PS} {f:Nat} {p:PS} {acc:List Ty} (h:¬ startsP L 0 p):typesL L T f p acc=(acc,p):=by
 cases f with
 | zero=>rfl
 | succ f=>rw [typesL,if_neg h]
abbrev zTyp:List AV:=[.val (.int .i64 0),.val (.string kE),.val (.int .i64 0),.val (.slice none 0 0)]
def TyC (b:Nat) (L:List Tok) (n:Nat) (T:PS→Ty × PS):Prop:=∀ q,POk L n q→MCall Tryz.prog 43 [.ptr b 0] (.loc b (psC L q)) (.agg (T q).1.cells) (.loc b (psC L (T q).2))
theorem atype_c (b:Nat) (L:List Tok) (hL:L.length≤100000) (n:Nat) (T:PS→Ty × PS) (HT:TyC b L n T) (HA:∀ q,POk L n q→Adv L q (T q).2) (p:PS) (k:POk L n p):MCall Tryz.prog 40 [.ptr b 0] (.loc b (psC L p)) (.agg (atypeG L T p).1.cells) (.loc b (psC L (atypeG L T p).2)):=by
 have HN:=next_c b L p
 have hp:=k.1
 have a1:=Zj (L:=L) (kind:=7) (s:=kLP) by17 k
 have k1:=a1.ok k
 obtain ⟨t,ht⟩:∃ t,nxt L p=t:=⟨_,rfl⟩
 obtain ⟨r,hr⟩:∃ r,atypeG L T p=r:=⟨_,rfl⟩
 have hr0:=hr
 unfold atypeG at hr
 rw [ht] at HN hr
 rw [hr0]
 obtain ⟨tk,tt,tn,ta⟩:=t
 simp only [Tok.av] at HN hr
 refine Zc Tryz.func40 Y (by kernel_rfl) Y (Xm Y) ?_
 refine Qn ?_
 refine QcU ?_;intro b2
 refine Qt ?_
 refine Zb 6 Y Y Y (Yi (xs:=[.tmp 5]) [1] Y Y Y (HN) by3 ?_)
 refine Qz ?_;intro b3
 refine Q6 ?_
 refine QbD ?_
 refine Qj ?_;intro c9 h9
 refine Qa ?_
 obtain ⟨rfl,g9⟩|⟨rfl,g9⟩:=Za h9
 ·refine Qcv ?_
  refine Qj ?_;intro c22 h22
  refine Qa ?_
  obtain ⟨rfl,g22⟩|⟨rfl,g22⟩:=Za h22
  ·refine QY ?_
   refine Zb 34 Y Y Y (Zf (xs:=[.tmp 33,.const (.int .i64 7),.const (.string ⟨#[40]⟩)]) (i:=2) Y Y Y (take_c b L hL p k.1 7 kLP) by3 ?_)
   refine Q2 ?_
   refine Zb 36 Y Y Y (op_mayc (xs:=[.tmp 35,.const (.string ⟨#[41]⟩)]) (i:=2) Y Y Y (may_c b L hL (takeP L p 7 kLP).2 kRP) by3 ?_ ?_)
   ·intro g36
    refine Qa ?_
    refine Qag ?_
    refine Zb 37 Y Y Y (Zk (ns:=[0,1]) (xs:=[.const (.int .i64 3),.const (.string ⟨#[85,110,105,116]⟩)]) Y tz_46 Y tfl_46 Y Y Y Y ?_)
    refine Qd9 ?_
    refine Ql ?_
    rw [if_neg g9,if_neg g22,if_pos g36] at hr;subst hr;exact Zn (i:=1) rfl rfl rfl ta_46 rfl by4 (Xd _ (Xd _ (Xf rfl))) ⟨rfl,rfl⟩
   intro g36
   refine Qa ?_
   refine Q7 ?_
   have HT1:=HT _ k1
   have k2:=(HA _ k1).ok k1
   rw [if_neg g9,if_neg g22,if_neg g36] at hr
   obtain ⟨⟨⟨xk,xs,xn,xl⟩,p3⟩,hx⟩:∃ r,T (takeP L p 7 kLP).2=r:=⟨_,rfl⟩
   rw [hx] at HT1 hr k2
   simp only [Ty.cells] at HT1
   refine Qe ?_
   refine Zb 39 Y Y Y (Zf (xs:=[.tmp 38]) (i:=2) Y Y Y (HT1) by3 ?_)
   refine QcU ?_;intro b4
   refine QcV ?_
   refine Qt ?_
   refine Zb 41 Y Y Y (Zf (xs:=[.tmp 40,.const (.int .i64 7),.const (.string ⟨#[41]⟩)]) (i:=3) Y Y Y (take_c b L hL _ k2.1 7 kRP) by3 ?_)
   refine QA ?_
   refine QcW ?_
   refine Qea ?_
   refine Ql ?_
   subst hr;exact Zn (i:=2) rfl rfl rfl ta_46 rfl (Xg _) (Xd _ (Xd _ (Xd _ (Xf rfl)))) ⟨rfl,rfl⟩
  refine QaP ?_
  refine QbZ ?_
  refine Qcx ?_
  refine Qc5 ?_
  refine Qbq ?_
  refine Zb 32 Y Y Y (Zk (ns:=[0,1]) (xs:=[.const (.int .i64 1),.tmp 31]) Y tz_46 Y tfl_46 Y Y Y Y ?_)
  refine Qd9 ?_
  refine Ql ?_
  rw [if_neg g9,if_pos g22] at hr;subst hr;exact Zn (i:=1) rfl rfl rfl ta_46 rfl by4 (Xd _ (Xd _ (Xf rfl))) ⟨rfl,rfl⟩
 refine QaP ?_
 refine QbZ ?_
 refine Qcx ?_
 refine Qc5 ?_
 refine Qbq ?_
 refine Zb 19 Y Y Y (Zk (ns:=[0,1]) (xs:=[.const (.int .i64 3),.tmp 18]) Y tz_46 Y tfl_46 Y Y Y Y ?_)
 refine Qd9 ?_
 refine Ql ?_
 rw [if_pos g9] at hr;subst hr;exact Zn (i:=1) rfl rfl rfl ta_46 rfl by4 (Xd _ (Xd _ (Xf rfl))) ⟨rfl,rfl⟩
theorem Type_err (b:Nat) (L:List Tok) (p:PS) (he:p.e≠0):MCall Tryz.prog 43 [.ptr b 0] (.loc b (psC L p)) (.agg ty0.cells) (.loc b (psC L p)):=by
 refine Zc Tryz.func43 Y (by kernel_rfl) Y (Xm Y) ?_
 refine Qn ?_
 refine QcU ?_;intro b2
 refine Q2 ?_
 refine Qcy ?_;intro c9 h9
 refine Qa ?_
 obtain ⟨rfl,g9⟩|⟨rfl,g9⟩:=Za h9
 ·exact absurd he g9
 refine Qag ?_
 refine QeZ ?_
 refine QcV ?_
 refine Ql ?_
 exact Zn (i:=0) Y Y Y ta_46 Y by4 (Xd _ (MLe.refl _)) ⟨Y,Y⟩
theorem Type_ok (b:Nat) (L:List Tok) (hL:L.length≤100000) (n:Nat) (T:PS→Ty × PS) (HT:TyC b L n T) (HA:∀ q,POk L n q→Adv L q (T q).2) (p:PS) (k:POk L (n+1) p) (he:p.e=0):MCall Tryz.prog 43 [.ptr b 0] (.loc b (psC L p)) (.agg (typeR L T (typeH L T (deeperP L p))).1.cells) (.loc b (psC L (typeR L T (typeH L T (deeperP L p))).2)):=by
 have kq:=deeper_ok k he
 have HN:=next_c b L (deeperP L p)
 have hq0:=kq.1
 have aH:=typeH_adv HA kq
 have kH:=aH.ok kq
 obtain ⟨t,ht⟩:∃ t,nxt L (deeperP L p)=t:=⟨_,rfl⟩
 have hkt:(nxt L (deeperP L p)).k=2→(deeperP L p).at_<L.length:=fun e=>(nxt_in by18).2
 have HAT:=atype_c b L hL n T HT HA (deeperP L p) kq
 obtain ⟨⟨⟨xk,xs,xn,xl⟩,q1⟩,hx⟩:∃ r,typeH L T (deeperP L p)=r:=⟨_,rfl⟩
 have hx0:=hx
 unfold typeH at hx
 rw [hx0] at kH ⊢
 simp only [] at kH
 obtain ⟨r,hr⟩:∃ r,typeR L T (Ty.mk xk xs xn xl,q1)=r:=⟨_,rfl⟩
 rw [hr]
 unfold typeR at hr
 simp only [] at hr
 rw [ht] at HN hx hkt
 obtain ⟨tk,tt,tn,ta⟩:=t
 simp only [Tok.av] at HN hx hkt
 refine Zc Tryz.func43 Y (by kernel_rfl) Y (Xm Y) ?_
 refine Qn ?_
 refine QcU ?_;intro b2
 refine Q2 ?_
 refine Qcy ?_;intro c9 h9
 refine Qa ?_
 obtain ⟨rfl,g9⟩|⟨rfl,g9⟩:=Za h9
 ·refine QY ?_
  refine Zb 12 Y Y Y (Zf (xs:=[.tmp 11]) (i:=1) Y Y Y (deeper_c b L p k.2.1 (by have:=k.2.2.1;omega)) by3 ?_)
  refine Qt ?_
  refine Zb 14 Y Y Y (Yi (xs:=[.tmp 13]) [1] Y Y Y (HN) by3 ?_)
  refine Qz ?_;intro b3
  refine Q6 ?_
  refine QA ?_
  refine QeZ ?_
  refine QcU ?_;intro b4
  refine QcV ?_
  refine Qv ?_
  refine QaY ?_
  refine Qj ?_;intro c18 h18
  refine Qa ?_
  apply c_joink (rg [(1,1),(3,1),(5,35)]) (σ:=Unit) (fun zz=>match zz with|z=>[]) (fun zz=>match zz with|z=>[.loc b4 (Ty.mk xk xs xn xl).cells,.loc b3 (Tok.mk tk tt tn ta).av,.loc b2 zTyp,.loc b (psC L q1)]) (fun zz=>match zz with|z=>True)
  ·repeat' (first|exact Xp|apply Xn rfl|apply Xo rfl)
  ·skip
   obtain ⟨rfl,g18⟩|⟨rfl,g18⟩:=Za h18
   ·refine QH ?_
    rw [if_neg g18] at hx
    rw [hx] at HAT
    simp only [Ty.cells] at HAT
    refine Qe ?_
    refine Zb 39 Y Y Y (Zf (xs:=[.tmp 38]) (i:=3) Y Y Y (HAT) by3 ?_)
    refine QcV ?_
    refine Qac ?_
    refine go_lp ?_
    first|exact ⟨(),trivial,by6,Xf rfl⟩|(rw [typesL_end g30] at hu;cases hu;exact ⟨(),trivial,by6,Xe _ (Xi (Xg _) (Xi (Xg _) (Xi (Xg _) (Xi (Le.own _ _ _) (Xh _))))) (Xc _ (Xc _ (Xc _ (Xb _))))⟩)
   refine QaG ?_
   rw [if_pos g18] at hx
   have hlt:=hkt g18
   have ks:=Yv kq hlt
   refine Qe ?_
   refine Qah ?_
   refine Qb9 ?_
   refine Qcx ?_
   refine Qc6 ?_
   refine Qa ?_
   refine QaY ?_
   refine Zb 28 Y Y Y (Zk (ns:=[0,1]) (xs:=[.const (.int .i64 3),.tmp 27]) Y tz_46 Y tfl_46 Y Y Y Y ?_)
   refine QcV ?_
   refine Qa ?_
   refine Qam ?_
   refine Yb 46 4 ?_
   apply Ye (rg [(1,1),(3,1),(5,35)]) (σ:=PS × Nat × List Ty × Value) (fun zz=>match zz with|(q,f,acc,u)=>[]) (fun zz=>match zz with|(q,f,acc,u)=>[.loc b4 [.val (.int .i64 3),.val (.string tt),.val (.int .i64 0),.own u 4 (Ty.cellss acc)],.loc b3 (Tok.mk tk tt tn ta).av,.loc b2 zTyp,.loc b (psC L q),.own 46 4 u]) (fun zz=>match zz with|(q,f,acc,u)=>POk L n q∧L.length - q.at_<f∧acc.length≤q.at_∧(Ty.mk 3 tt 0 (typesL L T f q acc).1,(typesL L T f q acc).2)=((Ty.mk xk xs xn xl),q1)) (fun zz=>match zz with|(q,f,acc,u)=>f) ((stepP (deeperP L p),L.length+1,[],.slice none 0 0))
   ·repeat' (first|exact Xp|apply Xn rfl|apply Xo rfl)
   ·exact ⟨ks.ok kq,by omega,Nat.zero_le _,hx⟩
   ·exact by6
   ·exact (Xe _ (Xi (Xg _) (Xi (Xg _) (Xi (Xg _) (Xi (Le.nilOwn 4) (Xh _))))) (Xc _ (Xc _ (Xf Y))))
   rintro ⟨q,f,acc,u⟩ hI
   try dsimp only [List.cons_append,List.nil_append] at hI ⊢
   obtain ⟨h1,h2,h3,hu⟩:=hI
   have hq1:=h1.1
   have hle:(Ty.cellss acc).length≤200000:=by rw [Ty.cellss_len];omega
   refine Qw ?_
   refine Zb 30 Y Y Y (op_callkb (xs:=[.tmp 29,.const (.int .i64 0)]) [3] Y Y Y (starts_c b L q 0) by3 ?_);intro c30 h30
   refine Qa ?_
   obtain ⟨rfl,g30⟩|⟨rfl,g30⟩:=Za h30
   ·refine QH ?_
    refine c_exit (x_code (x_lp (x_here (go_lp ?_))))
    first|exact ⟨(),trivial,by6,Xf rfl⟩|(rw [typesL_end g30] at hu;cases hu;exact ⟨(),trivial,by6,Xe _ (Xi (Xg _) (Xi (Xg _) (Xi (Xg _) (Xi (Le.own _ _ _) (Xh _))))) (Xc _ (Xc _ (Xc _ (Xb _))))⟩)
   refine Qab ?_
   obtain ⟨f,rfl⟩:∃ f',f=f'+1:=⟨f - 1,by omega⟩
   rw [typesL_go g30] at hu
   have b1:=atype_lt HA h1 g30
   have b2:=atype_adv HA h1
   have l2:=b2.ok h1
   have HA2:=atype_c b L hL n T HT HA q h1
   obtain ⟨⟨⟨yk,ys,yn,yl⟩,q2⟩,e2⟩:∃ r,atypeG L T q=r:=⟨_,rfl⟩
   rw [e2] at HA2 hu l2 b1
   simp only [Ty.cells] at HA2
   simp only [] at b1 l2
   have l3:=l2.1
   refine Qby ?_
   refine Zs 3 (i:=3) Y Y Y Y Y (Zf (xs:=[.tmp 33]) (i:=0) Y Y Y (HA2) by3 ⟨_,Y,?_⟩)
   refine Zh 35 (none) (i:=4) Y Y Y Y Y (Zd (xs:=[.tmp 34]) el_44 Y Y Y Y Y Y (Xm Y) ⟨Y,Y⟩) ?_
   refine Zs 4 (i:=5) Y Y Y Y Y (Zr (i:=0) el_44 Y Y Y Y (.seq _ _) by8 (fun u36=>⟨_,Y,?_⟩))
   refine QB ?_
   refine Zs 0 (i:=7) Y Y Y Y Y (Zi (cs':=[_,_,_,_]) (i:=0) Y ts_44 Y Y Y Y Y (Xm Y) Y ⟨_,Y,?_⟩)
   show AGo _ _ _ _ _ _ _
   refine Qbn ?_
   refine ⟨(q2,f,acc++[Ty.mk yk ys yn yl],u36),⟨l2,(by show L.length - q2.at_<f;omega),(by show (acc++[Ty.mk yk ys yn yl]).length≤q2.at_;rw [List.length_append];simp;omega),hu⟩,Nat.lt_succ_self f,by6,(Xe _ (Xi (Xg _) (Xi (Xg _) (Xi (Xg _) (Xi (Xl (by rw [Ty.cellss_app];rfl)) (Xh _))))) (Xc _ (Xc _ (Xf Y))))⟩
  rintro z hI
  try dsimp only [List.cons_append,List.nil_append] at hI ⊢
  refine Qc ?_
  refine Qw ?_
  refine Zb 41 Y Y Y (op_mayc (xs:=[.tmp 40,.const (.string ⟨#[45,62]⟩)]) (i:=3) Y Y Y (may_c b L hL q1 kArrow) by3 ?_ ?_)
  ·intro g41
   refine Qb1 ?_
   have ka:=Zw kH g41
   have kz:=ka.ok kH
   have HT1:=HT _ kz
   have kw:=(HA _ kz).ok kz
   obtain ⟨⟨⟨zk,zs,zn,zl⟩,q3⟩,e3⟩:∃ r,T (stepP q1)=r:=⟨_,rfl⟩
   rw [if_pos g41,e3] at hr
   rw [e3] at HT1 kw
   simp only [Ty.cells] at HT1
   simp only [] at kw
   have hb3:=kw.2.1
   have hb4:=kw.2.2.1
   refine Ya [0,1,2,3,4,5] [2,5] [[],[],[1],[0,1,2],[0,1,2,3],[0,1,2,3,4]] tmix Y (Zh 42 (some 0) (i:=0) Y Y Y Y Y (Zv (cs':=[_,_,_,_]) (i:=0) Y ta_46 Y Y Y Y ⟨Y,Y⟩) ?_)
   refine Qp ?_
   refine Zs 3 (i:=2) Y Y Y Y Y (Zf (xs:=[.tmp 43]) (i:=0) Y Y Y (HT1) by3 ⟨_,Y,?_⟩)
   refine Zh 45 (none) (i:=3) Y Y Y Y Y (Zd (xs:=[.tmp 42,.tmp 44]) el_44 Y Y Y Y Y Y (Xm Y) ⟨Y,Y⟩) ?_
   refine Zh 46 (none) (i:=4) Y Y Y Y Y (Zk (ns:=[0,1,3]) (xs:=[.const (.int .i64 3),.const (.string ⟨#[45,62]⟩),.tmp 45]) Y tz_46 Y tfl_46 Y Y Y Y ⟨Y,Y⟩) ?_
   refine Zs 0 (i:=5) Y Y Y Y Y (Zi (cs':=[_,_,_,_]) (i:=0) Y ts_46 Y Y Y Y Y (Xm Y) Y ⟨_,Y,?_⟩)
   show AGo _ _ _ _ _ _ _
   refine QaS ?_
   have hb1:=kH.2.1
   have hb2:=kH.2.2.1
   refine Qe ?_
   refine Qah ?_
   refine Qb9 ?_
   refine QT ?_
   refine Qah ?_
   refine Qc6 ?_
   refine QA ?_
   refine QcW ?_
   refine Qea ?_
   refine Ql ?_
   subst hr;exact Zn (i:=2) rfl rfl rfl ta_46 rfl (Xg _) (Xd _ (Xd _ (Xd _ (Xf rfl)))) ⟨rfl,rfl⟩
  intro g41
  refine Qa ?_
  refine Q7 ?_
  have hb1:=kH.2.1
  have hb2:=kH.2.2.1
  refine Qe ?_
  refine Qah ?_
  refine Qb9 ?_
  refine QT ?_
  refine Qah ?_
  refine Qc6 ?_
  refine QA ?_
  refine QcW ?_
  refine Qea ?_
  refine Ql ?_
  rw [if_neg g41] at hr;subst hr;exact Zn (i:=2) rfl rfl rfl ta_46 rfl (Xg _) (Xd _ (Xd _ (Xd _ (Xf rfl)))) ⟨rfl,rfl⟩
 exact absurd he g9
theorem Type_c (b:Nat) (L:List Tok) (hL:L.length≤100000):∀ n,TyC b L n (typeF L n)
 | 0,p,k=>Type_err b L p (fun e=>by have:=k.2.2.2 e;omega)
 | n+1,p,k=>by
  by_cases he:p.e=0
  ·have h:=Type_ok b L hL n (typeF L n) (Type_c b L hL n) (typeF_adv n) p k he
   rw [typeF,if_neg (by rw [he];simp)]
   exact h
  rw [typeF,if_pos he];exact Type_err b L p he
theorem typeP_c (b:Nat) (L:List Tok) (hL:L.length≤100000) (n:Nat) (p:PS) (k:POk L n p):MCall Tryz.prog 43 [.ptr b 0] (.loc b (psC L p)) (.agg (typeP L p).1.cells) (.loc b (psC L (typeP L p).2)):=Type_c b L hL 302 p (k.up by17)
end Go.Proofs.YtefbicnoddggnaaGreat
