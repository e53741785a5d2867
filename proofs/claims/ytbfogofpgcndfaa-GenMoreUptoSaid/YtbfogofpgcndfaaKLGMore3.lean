/- Parts of a proof: code.checker.number, fix, ins; small functions of layers 5 and 8: Has, HasInt, Index, Contains, IsFun, fun, Fun, Con, Clone, kids; Args, Answer, All, Vars, Metas of the document; Args of the program; cognatelaw08.count, Small; All, Vars, Metas of the document; Args of the program; smalls; walk, and what goes along with it: Vars, Metas, Size; prelude.rows, prelude.Prims (printed by wip/gen19.py).; prelude.Prims; When an instruction is right, as the document says it.; cognateref29.Has, in, rightAtom, rightAtoms; cognateref19.Takes; More rules: a rune as a text; a part of a text; contracts of the model's own kind; bools that are known.; Bytes as a text.; The logic of trees, part 18: calls of what Go gives without a body; texts, greater.; The logic of trees, part 19: calls that turn one piece of the memory; a nil as a slice of the call's own.; trees.Leaves, anf.paths, anf.checker.atom, args, stmt$1, anf.Right$1.; anf.paths, anf.checker.atom, args, stmt$1, anf.Right$1.; anf.checker.args, fix, target.; anf.checker.stmt, list; anf.Right.; cognateref29.ins; code.Right, cognateref29.Right; anf.Right.; cognatelaw28.decs, count, Small.; cognatelaw28.count, Small.; A logic of trees: a range over a function within a round of another.; A logic of trees: drawn regions order by order; a row that becomes eternal.; A logic of trees: drawn regions order by order, weaker slots; rows from nil.; A logic of trees: one cell of a row's element is written; a row that a variable holds stays for good.; gen.maker: add, jump, here.; gen.maker: here; ends.; A logic of trees: maps from texts.; gen.maker: a plain statement's instruction.; What waits for labels.; Labels as a list in the memory.; gen.maker: decide.; gen.maker: decide, of a switch; of any decision.; gen.maker: cases, given bodies.; gen.maker: body.; Texts that are said: bounds; maps. -/
import Derived.Test.YtbfogofpgcndfaaKLGMore2
import Derived.Laws.BytesArg
import Derived.Lib.Bytealg
import Derived.RangeFuncNested
import Derived.MapKept
set_option maxRecDepth 100000
set_option maxHeartbeats 4000000
namespace Go.Proofs.Ytbfogofpgcndfaa
open Go.RowKit
theorem number_c (c:Cd) (f:Cf) (fr to:Int) (ps:List Pm) (i:Is) (fa fb fn fg:Bool) (ag:Int) (hps:ps.length≤1000):BCall Try.prog 48 [.agg (ckCells c f fr to ps),.agg i.cells,.agg [.val (.bool fa),.val (.bool fb),.val (.bool fn),.val (.bool fg),.val (.int .i64 ag)]] (NumP ps i fn ag):=by
 obtain ⟨is,fu,tx,gl,ys,no⟩:=c
 obtain ⟨fl,sl,cp⟩:=f
 obtain ⟨op,a,b,n,ar,fs,ca⟩:=i
 have hla:=Ato.cellss_len ar
 have hlp:=Pm.cellss_len ps
 obtain ⟨⟨ws,wo,wn,⟨wv,wp,⟨wk,wt,wm,wl⟩⟩⟩,hw⟩:∃ p:Pm,1≤n→n≤ps.length→ps[(n - 1).toNat]?=some p:=by
  by_cases q:1≤n∧n≤ps.length
  ·exact ⟨ps[(n - 1).toNat]'by11,fun _ _=>List.getElem?_eq_getElem by11⟩
  exact ⟨⟨⟨#[]⟩,0,0,⟨[],[],⟨0,⟨#[]⟩,0,[]⟩⟩⟩,fun h1 h2=>absurd ⟨h1,h2⟩ q⟩
 show BCall _ _ _ ((op=3→0<ar.length∧0≤n∧n≤65535)∧(op=8→1≤n∧n≤ps.length∧∀ p,ps[(n - 1).toNat]?=some p→(ar.length:Int)=p.n)∧(op=9∨op=12→0≤n∧n≤1048576∧(ar.length:Int)=ag)∧(op≠3∧op≠8∧op≠9∧op≠12→(fn=true∨n=0)∧(ar.length:Int)=ag))
 refine Zc Try.func48 V (by kernel_rfl) V (Yq V) ?_
 refine Qi ?_
 refine QbT ?_
 refine Qbn ?_
 refine Qbo ?_
 refine QaS ?_
 refine Qd ?_
 refine QN ?_
 refine QK ?_;intro c10 h10
 refine Qb ?_
 obtain ⟨rfl,g10⟩|⟨rfl,g10⟩:=Za h10
 ·refine QI ?_;intro c26 h26
  refine Qb ?_
  obtain ⟨rfl,g26⟩|⟨rfl,g26⟩:=Za h26
  ·refine Qai ?_
   refine Qo ?_
   refine QK ?_;intro c53 h53
   refine Qb ?_
   obtain ⟨rfl,g53⟩|⟨rfl,g53⟩:=Za h53
   ·refine Qbd ?_
    refine Qx ?_;intro c54 h54
    refine Qb ?_
    obtain ⟨rfl,g54⟩|⟨rfl,g54⟩:=Za h54
    ·refine QB ?_
     refine QaR ?_
     refine Zo 6 ((fn=true∨n=0)∧(ar.length:Int)=ag) ?_ _ _ V ?_
     ·skip
      refine Ql ?_
      have h72:(fn=true↔fn=true):=Iff.rfl
      refine Qa ?_
      obtain ⟨rfl,g72⟩|⟨rfl,g72⟩:=Za h72
      ·skip
       refine Qab ?_;intro c76 h76
       refine Qh ?_
       obtain ⟨rfl,g76⟩|⟨rfl,g76⟩:=Za h76
       ·skip
        refine Qf ?_
        refine Qat ?_
        refine Yp V ?_ by4 by1
        simp_all;done
       skip
       refine Qc ?_
       refine Qcb ?_;intro n81
       refine Qab ?_;intro c84 h84
       refine Qm ?_
       refine Yp V ?_ by4 by1
       simp_all;done
      skip
      refine Q4 ?_
      refine Qc ?_
      refine Qcb ?_;intro n81
      refine Qab ?_;intro c84 h84
      refine Qm ?_
      refine Yp V ?_ by4 by1
      simp_all;done
     intro c6 h6
     refine Qs ?_
     exact Zd V V (Ym _) by1 ⟨⟨_,h6.trans ⟨fun q=>⟨by omega,by omega,by omega,fun _=>q⟩,fun q=>q.2.2.2 by11⟩,V⟩,V⟩
    refine Qas ?_
    refine Zo 6 (0≤n∧n≤1048576∧(ar.length:Int)=ag) ?_ _ _ V ?_
    ·skip
     refine Q1 ?_;intro c57 h57
     refine Qa ?_
     obtain ⟨rfl,g57⟩|⟨rfl,g57⟩:=Za h57
     ·skip
      refine QZ ?_
      refine Qat ?_
      refine Yp V ?_ by4 by1
      simp_all;omega
     skip
     refine Qc ?_
     refine Qbp ?_;intro c61 h61
     refine Qh ?_
     obtain ⟨rfl,g61⟩|⟨rfl,g61⟩:=Za h61
     ·skip
      refine Qf ?_
      refine Qat ?_
      refine Yp V ?_ by4 by1
      simp_all;omega
     skip
     refine Qc ?_
     refine Qcb ?_;intro n66
     refine Qab ?_;intro c69 h69
     refine Qm ?_
     refine Yp V ?_ by4 by1
     simp_all;done
    intro c6 h6
    refine Qs ?_
    exact Zd V V (Ym _) by1 ⟨⟨_,h6.trans ⟨fun q=>⟨by omega,by omega,fun _=>q,by omega⟩,fun q=>q.2.2.1 by11⟩,V⟩,V⟩
   refine Qar ?_
   refine Qas ?_
   refine Zo 6 (0≤n∧n≤1048576∧(ar.length:Int)=ag) ?_ _ _ V ?_
   ·skip
    refine Q1 ?_;intro c57 h57
    refine Qa ?_
    obtain ⟨rfl,g57⟩|⟨rfl,g57⟩:=Za h57
    ·skip
     refine QZ ?_
     refine Qat ?_
     refine Yp V ?_ by4 by1
     simp_all;omega
    skip
    refine Qc ?_
    refine Qbp ?_;intro c61 h61
    refine Qh ?_
    obtain ⟨rfl,g61⟩|⟨rfl,g61⟩:=Za h61
    ·skip
     refine Qf ?_
     refine Qat ?_
     refine Yp V ?_ by4 by1
     simp_all;omega
    skip
    refine Qc ?_
    refine Qcb ?_;intro n66
    refine Qab ?_;intro c69 h69
    refine Qm ?_
    refine Yp V ?_ by4 by1
    simp_all;done
   intro c6 h6
   refine Qs ?_
   exact Zd V V (Ym _) by1 ⟨⟨_,h6.trans ⟨fun q=>⟨by omega,by omega,fun _=>q,by omega⟩,fun q=>q.2.2.1 by11⟩,V⟩,V⟩
  refine Qas ?_
  refine c_boold 6 (1≤n∧n≤ps.length∧(ar.length:Int)=wn) tmix V ?_ _ _ V ?_
  ·skip
   refine QaU ?_
   refine DOps.cm 29 V V (fun _ q=>op_geq V V V q) ?_;intro c29 h29
   refine QF ?_
   obtain ⟨rfl,g29⟩|⟨rfl,g29⟩:=Za h29
   ·skip
    refine Qa9 ?_
    refine Qay ?_
    refine Q5 ?_
    refine Qbi ?_
    refine Qaj ?_
    refine Qcc ?_
    show BoolQ _ _ _ _ _ _
    refine Yp V ?_ by4 by1
    simp_all;omega
   skip
   refine QY ?_
   refine QY ?_
   refine Zz 35 V V V V (Ya V tu_71 V (.seq _ _) (fun _=>⟨V,V⟩)) ?_
   refine Yc 36 V V V V (fun _ q=>op_leq V V V q) ?_;intro c36 h36
   refine Q5 ?_
   obtain ⟨rfl,g36⟩|⟨rfl,g36⟩:=Za h36
   ·skip
    refine Qbi ?_
    refine Qaj ?_
    refine Qcc ?_
    show BoolQ _ _ _ _ _ _
    refine Yp V ?_ by4 by1
    simp_all;omega
   skip
   refine QY ?_
   refine QcA ?_
   refine QY ?_
   refine QY ?_
   refine Qc1 ?_
   refine Zz 47 V V V V (Zj (i:=(n - 1).toNat) V te_71 V (.seq _ _) V by7 (Pm.cellss_get (hw by11 by11)) ⟨V,V⟩) ?_
   refine QY ?_
   refine Yc 50 V V V V (fun _ q=>op_eql V V V q) ?_;intro c50 h50
   refine Qaj ?_
   refine Qcc ?_
   show BoolQ _ _ _ _ _ _
   refine Yp V ?_ by4 by1
   simp_all;done
  intro c6 h6
  refine Qs ?_
  exact Zd V V (Ym _) by1 ⟨⟨_,h6.trans ⟨fun q=>⟨by omega,fun _=>⟨q.1,q.2.1,fun p hp=>by rw [hw q.1 q.2.1] at hp;cases hp;exact q.2.2⟩,by omega,by omega⟩,fun q=>⟨(q.2.1 g26).1,(q.2.1 g26).2.1,(q.2.1 g26).2.2 _ (hw (q.2.1 g26).1 (q.2.1 g26).2.1)⟩⟩,V⟩,V⟩
 refine Qas ?_
 refine Zo 6 (0<ar.length∧0≤n∧n≤65535) ?_ _ _ V ?_
 ·skip
  refine Ql ?_
  refine Qbv ?_;intro n13
  refine QbV ?_;intro c14 h14
  refine Qa ?_
  obtain ⟨rfl,g14⟩|⟨rfl,g14⟩:=Za h14
  ·skip
   refine Q4 ?_
   refine QM ?_
   refine Yp V ?_ by4 by1
   simp_all;done
  skip
  refine Qc ?_
  refine QbH ?_;intro c18 h18
  refine Qh ?_
  obtain ⟨rfl,g18⟩|⟨rfl,g18⟩:=Za h18
  ·skip
   refine QM ?_
   refine Yp V ?_ by4 by1
   simp_all;omega
  skip
  refine Qc ?_
  refine Qbp ?_;intro c23 h23
  refine Qm ?_
  refine Yp V ?_ by4 by1
  simp_all;done
 intro c6 h6
 refine Qs ?_
 exact Zd V V (Ym _) by1 ⟨⟨_,h6.trans ⟨fun q=>⟨fun _=>q,by omega,by omega,by omega⟩,fun q=>q.1 g10⟩,V⟩,V⟩
theorem fix_c (c:Cd) (f:Cf) (fr to:Int) (ps:List Pm) (i:Is) (h1:1≤f.sl) (h2:f.sl≤1048576) (hli:i.Lim):BCall Try.prog 51 [.agg (ckCells c f fr to ps),.agg i.cells] (FixP c f i):=by
 have HA:=fun l=>Ev_Ato (AtomP f c.gl) 50 [.agg (ckCells c f fr to ps)] [] l (fun x _=>atom_c c f fr to ps x)
 obtain ⟨_,_,_,_,_,⟨hlf,_⟩,hlc,_⟩:=hli
 obtain ⟨op,a,b,n,ar,fs,ca⟩:=i
 dsimp only at hlf hlc
 have hl1:=nums_len fs
 have hl2:=Ato.cellsss_len ca
 show BCall _ _ _ ((op≠4→fs=[]∧ca=[])∧(op=4→fs≠[]∧ca.length=fs.length∧a≤f.sl - fs.length∧∀ (k:Nat) n l,fs[k]?=some n→ca[k]?=some l→CapP c f n l))
 unfold CapP
 generalize hAP:AtomP f c.gl=AP at *
 obtain ⟨is,fu,tx,gl,ys,no⟩:=c
 obtain ⟨fl,sl,cp⟩:=f
 have hl3:=Cf.cellss_len fu
 simp only [Cf.sl] at h1 h2 ⊢
 simp only [Cd.fu]
 refine Zc Try.func51 V (by kernel_rfl) V (Yq V) ?_
 refine Qi ?_
 refine QbT ?_
 refine Qbn ?_
 refine QaS ?_
 refine Qbx ?_;intro c9 h9
 refine Qd ?_
 obtain ⟨rfl,g9⟩|⟨rfl,g9⟩:=Za h9
 ·refine QaO ?_
  refine Zo 42 (¬ (fs≠[]∧ca.length=fs.length∧a≤sl - fs.length)) ?_ _ _ V ?_
  ·skip
   refine Ql ?_
   refine Qa6 ?_;intro n20
   refine Qx ?_;intro c21 h21
   refine Qa ?_
   obtain ⟨rfl,g21⟩|⟨rfl,g21⟩:=Za h21
   ·skip
    refine Qc ?_
    refine Qcd ?_;intro n25
    refine Qc ?_
    refine QbI ?_;intro n28
    refine Qal ?_;intro c29 h29
    refine Qh ?_
    obtain ⟨rfl,g29⟩|⟨rfl,g29⟩:=Za h29
    ·skip
     refine Qc ?_
     refine Qa4 ?_
     refine Qc ?_
     refine Qc ?_
     refine QbI ?_;intro n39
     refine QbW ?_
     refine Qbq ?_;intro c41 h41
     refine QH ?_
     refine Yp V ?_ by4 by1
     rw [h41,ne_nil_iff];omega
    skip
    refine Qf ?_
    refine Qa0 ?_
    refine Yp V ?_ by4 by1
    rw [ne_nil_iff];simp only [true_iff];omega
   skip
   refine Qf ?_
   refine QZ ?_
   refine Qa0 ?_
   refine Yp V ?_ by4 by1
   rw [ne_nil_iff];simp only [true_iff];omega
  intro c42 h42
  refine Qj ?_
  obtain ⟨rfl,g42⟩|⟨rfl,g42⟩:=Za h42
  ·refine QaO ?_
   obtain ⟨e1,e2,e3⟩:=Classical.not_not.1 g42
   refine QaV ?_
   refine Qa6 ?_;intro n45
   refine Qv ?_
   apply Zu (rg [(0,2),(4,40),(46,43)]) (σ:=Nat) (fun zz=>match zz with|k=>[(46,.val (.int .i64 k))]) (fun zz=>match zz with|k=>k≤fs.length∧∀ j n l,j<k→fs[j]?=some n→ca[j]?=some l→1≤n∧n<fu.length∧(∀ g,fu[n.toNat]?=some g→(l.length:Int)=g.cp)∧∀ a∈l,AP a) (fun zz=>match zz with|k=>fs.length - k) (0)
   ·repeat' (first|exact Yt|apply Yr rfl|apply Ys rfl)
   ·exact ⟨by omega,by omega⟩
   ·exact by2
   rintro k hI
   try dsimp only [List.cons_append,List.nil_append] at hI ⊢
   obtain ⟨hk,hu⟩:=hI
   refine Qw ?_;intro c47 h47
   refine Qg ?_
   obtain ⟨rfl,g47⟩|⟨rfl,g47⟩:=Za h47
   ·refine Q9 ?_
    exact Zd V V (Ym _) by1 ⟨⟨_,iff_t ⟨by omega,fun _=>⟨e1,e2,e3,fun k' n' l' hn hl=>hu k' n' l' (by have:=(List.getElem?_eq_some_iff.1 hn).1;omega) hn hl⟩⟩,V⟩,V⟩
   refine Qp ?_
   obtain ⟨m,hxm⟩:=Zh (l:=fs) (i:=k) by6
   have hcm:=nums_get hxm
   have hmm:=Yu hxm
   refine Qn ?_
   refine Qcw ?_
   refine QR ?_
   refine Qa3 ?_
   refine Qu ?_
   obtain ⟨l,hxl⟩:=Zh (l:=ca) (i:=k) by11
   have hcl:=Ato.cellsss_get hxl
   have hll:=Ato.cellss_len l
   obtain ⟨⟨wl,wsl,wcp⟩,hw⟩:∃ p:Cf,1≤m→m<fu.length→fu[m.toNat]?=some p:=by
    by_cases q:1≤m∧m<fu.length
    ·exact ⟨fu[m.toNat]'by11,fun _ _=>List.getElem?_eq_getElem by11⟩
    exact ⟨⟨0,0,0⟩,fun h1 h2=>absurd ⟨h1,h2⟩ q⟩
   refine c_boold 87 (¬ (1≤m∧m<fu.length∧(l.length:Int)=wcp∧∀ a∈l,AP a)) tmix V ?_ _ _ V ?_
   ·skip
    refine QF ?_
    refine DOps.cm 52 V V (fun _ q=>op_lss V V V q) ?_;intro c52 h52
    refine QF ?_
    obtain ⟨rfl,g52⟩|⟨rfl,g52⟩:=Za h52
    ·skip
     refine QbC ?_
     refine QbN ?_
     refine QY ?_
     refine Zz 58 V V V V (Ya V tu_31 V (.seq _ _) (fun _=>⟨V,V⟩)) ?_
     refine Yc 59 V V V V (fun _ q=>op_geq V V V q) ?_;intro c59 h59
     refine Q5 ?_
     obtain ⟨rfl,g59⟩|⟨rfl,g59⟩:=Za h59
     ·skip
      refine QaC ?_
      refine Qc2 ?_
      refine QbO ?_
      refine QcA ?_
      refine QbN ?_
      refine QaC ?_
      refine Zz 72 V V V V (Zj (i:=m.toNat) V te_31 V (.seq _ _) V by7 ((by first|exact hcl|exact Cf.cellss_get (hw by11 by11))) ⟨V,V⟩) ?_
      refine QY ?_
      refine Yc 75 V V V V (fun _ q=>op_neq V V V q) ?_;intro c75 h75
      refine Q5 ?_
      obtain ⟨rfl,g75⟩|⟨rfl,g75⟩:=Za h75
      ·skip
       refine QaC ?_
       refine Qc2 ?_
       refine QbO ?_
       refine Zz 83 V V V V (Zp (cs':=[_,_,_,_,_,_,_,_,_,_,_,_]) V ta_85 V V V ⟨V,V⟩) ?_
       refine Zz 84 V V V V (Yf (fs:=[.tmp 83]) (cs:=[]) V V V ⟨V,V⟩) ?_
       refine Yc 85 V V V V (fun _ q=>Zk (xs:=[.tmp 82,.tmp 84]) V V (HA l) by0 q) ?_;intro c85 h85
       refine Yc 86 V V V V (fun _ q=>op_notc V V q) ?_;intro c86 h86
       try replace h86:=Yg h86 h85
       refine Qaj ?_
       show BoolQ _ _ _ _ _ _
       refine Yp V ?_ by4 by1
       rw [h86];simp only [not_and];constructor <;> intro q;(intro _ _ _;exact q);exact q by11 by11 by11
      skip
      refine Qbb ?_
      refine Qa1 ?_
      show BoolQ _ _ _ _ _ _
      refine Yp V ?_ by4 by1
      simp only [true_iff];omega
     skip
     refine Qbi ?_
     refine Qay ?_
     refine Q5 ?_
     refine Qbb ?_
     refine Qa1 ?_
     show BoolQ _ _ _ _ _ _
     refine Yp V ?_ by4 by1
     simp only [true_iff];omega
    skip
    refine Qa9 ?_
    refine Qay ?_
    refine Q5 ?_
    refine Qbi ?_
    refine Qay ?_
    refine Q5 ?_
    refine Qbb ?_
    refine Qa1 ?_
    show BoolQ _ _ _ _ _ _
    refine Yp V ?_ by4 by1
    simp only [true_iff];omega
   intro c87 h87
   refine Qj ?_
   obtain ⟨rfl,g87⟩|⟨rfl,g87⟩:=Za h87
   ·refine Qaa ?_
    refine ⟨k+1,⟨by omega,fun j n' l' hj hn hl=>?_⟩,by simp;omega,by2,by1⟩
    rcases Nat.lt_or_ge j k with q|q
    ·exact hu j n' l' q hn hl
    have:j=k:=by omega
    subst this
    rw [hxm] at hn;cases hn
    rw [hxl] at hl;cases hl
    obtain ⟨q1,q2,q3,q4⟩:=Classical.not_not.1 g87
    exact ⟨q1,q2,fun g hg=>by rw [hw q1 q2] at hg;cases hg;exact q3,q4⟩
   refine Qq ?_
   exact Zd V V (Ym _) by1 ⟨⟨_,iff_f (fun q=>g87 (by have q':=(q.2 by11).2.2.2 k m l hxm hxl;exact ⟨q'.1,q'.2.1,q'.2.2.1 _ (hw q'.1 q'.2.1),q'.2.2.2⟩)),V⟩,V⟩
  refine Qq ?_
  exact Zd V V (Ym _) by1 ⟨⟨_,iff_f (fun q=>g42 ⟨(q.2 by11).1,(q.2 by11).2.1,(q.2 by11).2.2.1⟩),V⟩,V⟩
 refine Q6 ?_
 refine Ql ?_
 refine Qa6 ?_;intro n12
 refine Ql ?_
 refine QcB ?_;intro n15
 refine QS ?_
 refine Qx ?_;intro c17 h17
 refine Qe ?_
 exact Zd rfl rfl (Ym _) by1 ⟨⟨_,h17.trans ⟨fun q=>⟨fun _=>⟨List.eq_nil_of_length_eq_zero by11,List.eq_nil_of_length_eq_zero by11⟩,by omega⟩,fun q=>by obtain ⟨e1,e2⟩:=q.1 g9;subst e1 e2;rfl⟩,rfl⟩,rfl⟩
theorem ins_c (c:Cd) (f:Cf) (fr to:Int) (ps:List Pm) (i:Is) (h1:1≤f.sl) (h2:f.sl≤1048576) (hli:i.Lim) (hps:ps.length≤1000):BCall Try.prog 30 ([.agg (ckCells c f fr to ps)]++[.agg i.cells]++[]) (InsP ps c f fr to i):=by
 have HA:=Ev_Ato (AtomP f c.gl) 50 [.agg (ckCells c f fr to ps)] [] i.ar (fun x _=>atom_c c f fr to ps x)
 have HO:=of_c i.op
 have HP:=places_c c f fr to ps i (opA i.op) (opB i.op) (opN i.op) (opS i.op) (opG i.op)
 have HN:=number_c c f fr to ps i (opA i.op) (opB i.op) (opN i.op) (opS i.op) (opG i.op) hps
 have HF:=fix_c c f fr to ps i h1 h2 hli
 unfold InsP
 generalize PlaP c f fr to i (opA i.op) (opB i.op)=pP at *
 generalize NumP ps i (opN i.op) (opG i.op)=pN at *
 generalize FixP c f i=pF at *
 generalize AtomP f c.gl=AP at *
 obtain ⟨is,fu,tx,gl,ys,no⟩:=c
 obtain ⟨fl,sl,cp⟩:=f
 obtain ⟨op,a,b,n,ar,fs,ca⟩:=i
 simp only [Is.op,Is.ar] at *
 generalize opA op=oa at *
 generalize opB op=ob at *
 generalize opN op=on at *
 generalize opS op=os at *
 generalize opG op=og at *
 generalize opOk op=ok at *
 generalize hAA:(∀ a∈ar,AP a)=pA at *
 refine Zc Try.func30 V (by kernel_rfl) V (Yq V) ?_
 refine Qi ?_
 refine QbT ?_
 refine Qbn ?_
 refine Q3 ?_
 refine Ql ?_
 refine Zb 10 V V V (Zl (xs:=[.tmp 9]) V V (HO) by0 ?_)
 refine Qa ?_
 refine QaW ?_
 refine QaW ?_
 refine Qcz ?_;intro b5
 refine Zq V V (Zm (cs':=[_,_,_,_,_]) (i:=0) V ts_115 V V V V V (Yq V) V ?_)
 refine Qu ?_
 refine Zo 4 (ok=true∧pP∧pN∧pA∧pF) ?_ _ _ V ?_
 ·skip
  refine Qa ?_
  have h13:(ok=true↔ok=true):=Iff.rfl
  refine Qa ?_
  obtain ⟨rfl,g13⟩|⟨rfl,g13⟩:=Za h13
  ·skip
   refine Qf ?_
   refine QaD ?_
   refine Qae ?_
   refine Qh ?_
   refine QM ?_
   refine Yp V ?_ by4 by1
   simp_all;done
  skip
  refine Qce ?_
  refine QcC ?_
  refine Qc3 ?_
  refine Zg 18 V V V V V (Zk (xs:=[.tmp 15,.tmp 16,.tmp 17]) V V (HP) by0 ?_);intro c18 h18
  refine Qh ?_
  obtain ⟨rfl,g18⟩|⟨rfl,g18⟩:=Za h18
  ·skip
   refine Qf ?_
   refine QX ?_
   refine Qae ?_
   refine Qh ?_
   refine QM ?_
   refine Yp V ?_ by4 by1
   simp_all;done
  skip
  refine Qce ?_
  refine QcC ?_
  refine Qc3 ?_
  refine Zg 24 V V V V V (Zk (xs:=[.tmp 21,.tmp 22,.tmp 23]) V V (HN) by0 ?_);intro c24 h24
  refine Qh ?_
  obtain ⟨rfl,g24⟩|⟨rfl,g24⟩:=Za h24
  ·skip
   refine Qf ?_
   refine Qae ?_
   refine Qh ?_
   refine QM ?_
   refine Yp V ?_ by4 by1
   simp_all;done
  skip
  refine Qc ?_
  refine Qce ?_
  refine Zg 30 V V V V V (Yf (fs:=[.tmp 29]) (cs:=[]) V V V (Zg 31 V V V V V (Zk (xs:=[.tmp 28,.tmp 30]) V V (HA) by0 ?_)));intro c31 h31
  refine Qh ?_
  obtain ⟨rfl,g31⟩|⟨rfl,g31⟩:=Za h31
  ·skip
   refine QM ?_
   refine Yp V ?_ by4 by1
   simp_all;done
  skip
  refine Qce ?_
  refine QcC ?_
  refine Zg 36 V V V V V (Zk (xs:=[.tmp 34,.tmp 35]) V V (HF) by0 ?_);intro c36 h36
  refine Qm ?_
  refine Yp V ?_ by4 by1
  simp_all;done
 intro c4 h4
 refine Qs ?_
 exact Zd V V (Ym _) by1 ⟨⟨_,h4,V⟩,V⟩
theorem IndexS_c (xs:List ByteArray) (x:ByteArray):PCall Try.prog 77 [.seq 1 (strs xs),.val (.string x)] (.val (.int .i64 (firstAt x xs 0))):=by
 have hlx:=strs_len xs
 refine Zc Try.func77 V (by kernel_rfl) V (Yq V) ?_
 refine QJ ?_
 refine c_lens (t:=0) V (.seq _ _) (fun hmax=>?_)
 refine QaL ?_
 refine QbP ?_;intro n7
 refine Qv ?_
 refine c_loop (σ:=Nat) (fun zz=>match zz with|i=>[(0,.seq 1 (strs xs)),(1,.val (.string x)),(7,.val (.int .i64 (strs xs).length)),(8,.val (.int .i64 i))]) (fun zz=>match zz with|i=>[]) (fun zz=>match zz with|i=>i≤xs.length∧x∉xs.take i) (fun zz=>match zz with|i=>xs.length - i) (0) ?_ ?_ ?_ ?_
 ·exact ⟨by omega,by simp⟩
 ·exact by2
 ·exact by1
 rintro i hI
 try dsimp only [List.cons_append,List.nil_append] at hI ⊢
 obtain ⟨hi,hu⟩:=hI
 refine Qw ?_;intro c9 h9
 refine Qg ?_
 obtain ⟨rfl,g9⟩|⟨rfl,g9⟩:=Za h9
 ·refine Q9 ?_
  refine Zd V V (Ym _) by1 ⟨?_,V⟩
  rw [← firstAt_drop x xs i hu,List.drop_eq_nil_of_le by11,firstAt]
 refine QO ?_
 refine c_skip ?_
 refine QV ?_
 refine QN ?_
 refine Qr ?_
 refine Qu ?_
 obtain ⟨y,hy⟩:=Zh (l:=xs) (i:=i) by11
 have hcy:=strs_get hy
 refine Qaz ?_
 refine Qa ?_
 refine QcZ ?_
 refine QR ?_
 refine Zb 16 V V V (op_seql V V V ?_);intro c16 h16
 refine Qd ?_
 obtain ⟨rfl,g16⟩|⟨rfl,g16⟩:=Za h16
 ·refine Qaa ?_
  exact ⟨i+1,⟨by omega,not_mem_take hu hy (fun e=>g16 e.symm)⟩,by simp;omega,by2,by1⟩
 refine QaA ?_
 refine Zd V V (Ym _) by1 ⟨?_,V⟩
 rw [← firstAt_drop x xs i hu,drop_at hy,firstAt,if_pos g16]
theorem ContainsS_c (xs:List ByteArray) (x:ByteArray):BCall Try.prog 58 [.seq 1 (strs xs),.val (.string x)] (x∈xs):=by
 refine Zc Try.func58 V (by kernel_rfl) V (Yq V) ?_
 refine QaM ?_
 refine Zb 7 V V V (Zl (xs:=[.tmp 5,.tmp 6]) V V (IndexS_c xs x) by0 ?_)
 refine Qak ?_;intro c8 h8
 refine Qe ?_
 exact Zd V V (Ym _) by1 ⟨⟨_,h8.trans (firstAt_nonneg x xs 0),V⟩,V⟩
theorem fun_c (t:Ty):BCall Try.prog 55 [.agg t.cells] t.isFun:=by
 obtain ⟨k,s,n,ks⟩:=t
 have hl:=Ty.cellss_len ks
 refine Zc Try.func55 V (by kernel_rfl) V (Yq V) ?_
 refine Qi ?_
 refine Qbr ?_;intro b1
 refine Qu ?_
 refine Zo 2 (k=3∧s=arrow∧ks.length=2) ?_ _ _ V ?_
 ·skip
  refine Qt ?_
  refine Qx ?_;intro c5 h5
  refine Qa ?_
  obtain ⟨rfl,g5⟩|⟨rfl,g5⟩:=Za h5
  ·skip
   refine QZ ?_
   refine Qm ?_
   refine Yp V ?_ by4 by1
   first|(simp_all;omega)|simp_all
  skip
  refine QL ?_
  refine Zg 9 V V V V V (op_seql V V V ?_);intro c9 h9
  refine Qh ?_
  obtain ⟨rfl,g9⟩|⟨rfl,g9⟩:=Za h9
  ·skip
   refine Qbf ?_
   refine Yp V ?_ by4 by1
   first|(simp_all;omega)|simp_all
  skip
  refine QL ?_
  refine Zg 14 V V V V V (Ya V tu_89 V (.seq _ _) (fun n14=>?_))
  refine QbB ?_;intro c15 h15
  refine Qm ?_
  refine Yp V ?_ by4 by1
  first|(simp_all;omega)|simp_all
 intro c2 h2
 refine Qs ?_
 exact Zd V V (Ym _) by1 ⟨⟨_,h2,V⟩,V⟩
theorem CloneT_c (ks:List Ty) (hb:ks.length≤100000000):PCall Try.prog 76 [.seq 4 (Ty.cellss ks)] (.seq 4 (Ty.cellss ks)):=by
 have hl:=Ty.cellss_len ks
 refine Zc Try.func76 V (by kernel_rfl) V (Yq V) ?_
 refine Qi ?_
 refine Qu ?_
 refine Qr ?_
 refine Zb 4 V V V (op_isnil V tu_89 V (.seq _ _) ?_)
 intro c4 h4
 refine Qd ?_
 rcases c4 with _|_
 ·refine QB ?_
  refine Q2 ?_
  refine Zb 5 V V V (op_buildSlice_own (xs:=[]) el_89 V V V V V V (Yq V) ?_);intro u5
  refine Qa ?_
  refine Zb 7 V V V (op_append (i:=0) el_89 V V V V (.seq _ _) by5 ?_)
  intro u7
  refine Qe ?_
  exact Zd V V (Le.own _ _ _) by1 ⟨V,V⟩
 refine Qq ?_
 exact Zd V V (by rw [h4 rfl];exact Le.nil 4) by1 ⟨V,V⟩
theorem Con_c (s:ByteArray) (ks:List Ty) (hb:ks.length≤100000000):PCall Try.prog 52 [.val (.string s),.seq 4 (Ty.cellss ks)] (.agg (Ty.mk 3 s 0 ks).cells):=by
 refine Zc Try.func52 V (by kernel_rfl) V (Yq V) ?_
 refine Qi ?_
 refine Qaw ?_;intro b4
 refine Qd ?_
 refine Qr ?_
 refine Qa ?_
 refine Zb 7 V V V (Zl (xs:=[.tmp 6]) V V (CloneT_c ks hb) by0 ?_)
 refine Zb 8 V V V (Zn (ns:=[0,1,3]) (xs:=[.const (.int .i64 3),.tmp 5,.tmp 7]) V tz_91 V tfl_91 V V V V ?_)
 refine Qby ?_
 refine Qd ?_
 refine c_ret ?_
 exact Ze (i:=0) V V V ta_91 V (by repeat' (first|exact Ym _|exact Le.own _ _ _|exact Le.nil _|refine Le.agg ?_|refine Le.tup ?_|exact Yn _|refine Yo ?_ ?_)) by1 ⟨V,V⟩
theorem Fun_c (a b:Ty):PCall Try.prog 54 [.agg a.cells,.agg b.cells] (.agg (Ty.mk 3 arrow 0 [a,b]).cells):=by
 obtain ⟨k1,s1,n1,ks1⟩:=a
 obtain ⟨k2,s2,n2,ks2⟩:=b
 refine Zc Try.func54 V (by kernel_rfl) V (Yq V) ?_
 refine Qi ?_
 refine Qbr ?_;intro b2
 refine Qbr ?_;intro b3
 refine Qaw ?_;intro b4
 refine QaE ?_
 refine Qc4 ?_
 refine Zb 6 V V V (Zs (cs':=[_,_,_,_]) (i:=1) V ta_91 V V V V (Zb 7 V V V (Zr (xs:=[.tmp 5,.tmp 6]) el_89 V V V V V V (Yq V) (Zb 8 V V V (Zl (xs:=[.const (.string ⟨#[45,62]⟩),.tmp 7]) V V (Con_c arrow [.mk k1 s1 n1 ks1,.mk k2 s2 n2 ks2] by12) by0 ?_)))))
 refine Qby ?_
 refine Qd ?_
 refine c_ret ?_
 exact Ze (i:=0) V V V ta_91 V (by repeat' (first|exact Ym _|exact Le.own _ _ _|exact Le.nil _|refine Le.agg ?_|refine Le.tup ?_|exact Yn _|refine Yo ?_ ?_)) by1 ⟨V,V⟩
end Go.Proofs.Ytbfogofpgcndfaa
namespace Go.Proofs.Ytbfogofpgcndfaa
open Go.RowKit
theorem Args_c (t:Ty) (hmx:t.size≤1000000):PCall Try.prog 33 [.agg t.cells] (.tup [.seq 4 (Ty.cellss t.args),.agg t.ans.cells]):=by
 have has:=Ty.args_size t
 obtain ⟨k,s,n,ks⟩:=t
 refine Zc Try.func33 V (by kernel_rfl) V (Yq V) ?_
 refine Qi ?_
 refine Qbr ?_;intro b1
 refine Qa3 ?_
 refine Qaw ?_;intro b3
 refine QaE ?_
 refine Qu ?_
 refine QN ?_
 refine ACode.ownNil (t:=4) 91 4 V ?_
 refine c_loop (σ:=Ty × List Ty × Value) (fun zz=>match zz with|(c,dn,u)=>[(1,.ptr b1 0),(3,.ptr b3 0),(4,.own u 4 (Ty.cellss dn))]) (fun zz=>match zz with|(c,dn,u)=>[.own 91 4 u,.loc b3 [.val (.int .i64 0),.val (.string ⟨#[]⟩),.val (.int .i64 0),.val (.slice none 0 0)],.loc b1 c.cells]) (fun zz=>match zz with|(c,dn,u)=>dn++c.args=Ty.args (.mk k s n ks)∧c.ans=Ty.ans (.mk k s n ks)) (fun zz=>match zz with|(c,dn,u)=>c.size) ((.mk k s n ks,[],.slice none 0 0)) ?_ ?_ ?_ ?_
 ·exact ⟨V,V⟩
 ·exact by2
 ·exact by1
 rintro ⟨⟨ck,cs,cn,cks⟩,dn,u⟩ hI
 try dsimp only [List.cons_append,List.nil_append] at hI ⊢
 obtain ⟨ha,hb⟩:=hI
 refine Qo ?_
 refine Qy ?_
 refine Qc4 ?_
 refine Zb 6 V V V (Zk (xs:=[.tmp 5]) V V (fun_c (.mk ck cs cn cks)) by0 ?_);intro c6 h6
 refine Qd ?_
 obtain ⟨rfl,g6⟩|⟨rfl,g6⟩:=Za h6
 ·refine Qac ?_
  rw [Ty.args_not g6] at ha
  rw [Ty.ans_not g6] at hb
  refine Yh [0,1,2,3] [3] [[],[],[0],[0,1,2]] tmix V ?_
  refine QD ?_
  refine Qcf ?_
  refine Zf 2 (none) (i:=2) V V V V V (op_assign V V ⟨V,V⟩) ?_
  refine EOps.w 1 (i:=3) V V V V V (Zm (cs':=[_,_,_,_]) (i:=0) V ts_91 V V V V V (Yq V) V ⟨_,V,?_⟩)
  show AGo _ _ _ _ _ _ _
  refine Qs ?_
  rw [← ha,← hb]
  exact out_tc (i:=1) V V V V ta_91 V (by repeat' (first|exact Ym _|exact Le.own _ _ _|exact Le.nil _|refine Le.agg ?_|refine Le.tup ?_|exact Yn _|refine Yo ?_ ?_|(refine Le.own_eq ?_;simp)|(refine Le.own_seq ?_;simp)|(refine Le.seq_eq ?_;simp))) by1 ⟨V,V⟩
 refine Qar ?_
 refine QP ?_
 obtain ⟨n',⟨ka,sa,na,kas⟩,⟨kb,sb,nb,kks⟩,e⟩:=Ty.fun_kids g6
 cases e
 rw [Ty.args_fun] at ha
 rw [Ty.ans_fun] at hb
 have hln:=congrArg List.length ha
 simp only [List.length_append,List.length_cons] at hln
 refine Qn ?_
 refine QC ?_
 refine QbJ ?_
 refine Zb 10 V V V (Zj (i:=0) V te_89 V (.seq _ _) V V (by first|rfl|assumption) ?_)
 refine QcD ?_
 refine Zb 12 V V V (Zr (xs:=[.tmp 11]) el_89 V V V V V V (Yq V) ?_)
 refine Zb 13 V V V (op_append (i:=0) el_89 V V V V (.seq _ _) (by simp [Ty.cellss_len];omega) ?_)
 intro u13
 refine Qb ?_
 refine Qk ?_
 refine QC ?_
 refine QbJ ?_
 refine Zb 16 V V V (Zj (i:=1) V te_89 V (.seq _ _) V V (by first|rfl|assumption) ?_)
 refine QcD ?_
 refine Qc5 ?_
 refine Qz ?_
 refine go_blk (go_lp ?_)
 exact ⟨(.mk kb sb nb kks,dn++[.mk ka sa na kas],u13),⟨by rw [← ha];simp,hb⟩,by simp [Ty.size,Ty.sizes];omega,(by repeat' (first|exact SLe.nil _|refine SLe.cons V ?_ ?_|exact Ym _|exact Le.own _ _ _|exact Le.nil _|(refine Le.own_eq ?_;(rw [Ty.cellss_app];rfl))|(refine Le.own_seq ?_;(rw [Ty.cellss_app];rfl))|(refine Le.seq_eq ?_;(rw [Ty.cellss_app];rfl)))),by1⟩
theorem C_fold {A:Type} {C:Nat→A→Prop} {step:A→Ty→A} (hC:∀ k acc x,C (k+1) acc→C k (step acc x)):∀ (l:List Ty) (k:Nat) (acc:A),C (l.length+k) acc→C k (l.foldl step acc)
 | [],k,acc,h=>by simpa using h
 | x::l,k,acc,h=>by
  rw [List.foldl_cons]
  exact C_fold hC l k _ (hC _ _ _ (by rw [List.length_cons] at h;rwa [show l.length+k+1=l.length+1+k from by omega]))
theorem walk_c {A:Type} (G:A→Mem→Prop) (C:Nat→A→Prop) (step:A→Ty→A) (f:FuncId) (fs cs:List AV)
    (hf:∀ k acc x M,C (k+1) acc→G acc M→ACall Try.prog f (fs++[.agg (Ty.cells x)]++cs) M (fun v M'=>v=.tup []∧G (step acc x) M'))
    (hC:∀ k acc x,C (k+1) acc→C k (step acc x)) (d:Nat):∀ (t:Ty) (acc:A) (k:Nat) (M:Mem),t.size≤d→C (t.size+k) acc→G acc M →
     ACall Try.prog 56 [.agg t.cells,.clo (.func f) fs cs] M (fun v M'=>v=.tup []∧G (t.all.foldl step acc) M'):=by
 induction d with
 | zero=>intro t acc k M hd;have:=Ty.size_pos t;omega
 | succ d ih =>
  rintro ⟨tk,ts,tn,ks⟩ acc k M hd hc hG
  have hl:=Ty.cellss_len ks
  rw [Ty.size] at hd hc
  have hc1:C (Ty.sizes ks+k) (step acc (.mk tk ts tn ks)):=hC _ _ _ (by rwa [show Ty.sizes ks+k+1=1+Ty.sizes ks+k from by omega])
  refine Zc Try.func56 V (by kernel_rfl) V (Yq V) ?_
  refine QJ ?_
  refine c_lena (t:=0) (j:=3) V V (.seq _ _) (fun hmax=>?_)
  refine Qy ?_
  refine Qbr ?_;intro b2
  refine Qd ?_
  refine Qr ?_
  refine QbX ?_
  refine Zb 8 V V V (op_callvm (xs:=[.tmp 7])  [.loc b2 _] V V V V (hf (Ty.sizes ks+k) acc (.mk tk ts tn ks) M (by rwa [show Ty.sizes ks+k+1=1+Ty.sizes ks+k from by omega]) hG) (Yn _) (fun v8 M8 h8=>?_))
  refine Qz ?_
  obtain ⟨rfl,hG8⟩:=h8
  refine Q2 ?_
  refine Qt ?_
  refine Zb 11 V V V (Ya V tu_89 V (.seq _ _) (fun n11=>?_))
  refine Qv ?_
  refine c_loop (σ:=Nat × Mem) (fun zz=>match zz with|(i,Ms)=>[(1,.clo (.func f) fs cs),(10,.seq 4 (Ty.cellss ks)),(11,.val (.int .i64 (Ty.cellss ks).length)),(12,.val (.int .i64 i))]) (fun zz=>match zz with|(i,Ms)=>.loc b2 (Ty.cells (.mk tk ts tn ks))::Ms) (fun zz=>match zz with|(i,Ms)=>i≤ks.length∧G ((Ty.alls (ks.take i)).foldl step (step acc (.mk tk ts tn ks))) Ms) (fun zz=>match zz with|(i,Ms)=>ks.length - i) ((0,M8)) ?_ ?_ ?_ ?_
  ·exact ⟨by omega,by simpa [Ty.alls] using hG8⟩
  ·exact by2
  ·exact by1
  rintro ⟨i,Ms⟩ hI
  try dsimp only [List.cons_append,List.nil_append] at hI ⊢
  obtain ⟨hi,hGi⟩:=hI
  refine Qw ?_;intro c13 h13
  refine Qg ?_
  obtain ⟨rfl,g13⟩|⟨rfl,g13⟩:=Za h13
  ·refine Qao ?_
   refine go_end (out_none V (Yk _ (Yi _)) ⟨V,?_⟩)
   rw [Ty.all,List.foldl_cons]
   rwa [List.take_of_length_le by11] at hGi
  refine Qp ?_
  obtain ⟨⟨k',s',n',ks'⟩,hx⟩:=Zh (l:=ks) (i:=i) by11
  have hcx:=Ty.cellss_get hx
  have hsz:=Ty.size_at hx
  have hsp:Ty.sizes (ks.take i)+Ty.size (.mk k' s' n' ks')≤Ty.sizes ks:=by
   have h1:=Ty.sizes_take ks (i+1)
   rw [take_snoc hx,Ty.sizes_app] at h1
   simpa [Ty.sizes] using h1
  have hCi:C (Ty.size (.mk k' s' n' ks')+(Ty.sizes ks - Ty.sizes (ks.take i) - Ty.size (.mk k' s' n' ks')+k)) ((Ty.alls (ks.take i)).foldl step (step acc (.mk tk ts tn ks))):=by
   refine C_fold hC _ _ _ ?_
   rw [Ty.alls_len]
   rwa [show Ty.sizes (ks.take i)+(Ty.size (.mk k' s' n' ks')+(Ty.sizes ks - Ty.sizes (ks.take i) - Ty.size (.mk k' s' n' ks')+k))=Ty.sizes ks+k from by omega]
  refine Qk ?_
  refine Zb 14 V V V (Zj V te_89 V (.seq _ _) V V by9 ?_)
  refine QcD ?_
  refine Qaw ?_;intro b5
  refine Qby ?_
  refine Qd ?_
  refine Qk ?_
  refine QbX ?_
  refine Qa ?_
  refine Zb 18 V V V (op_callm (xs:=[.tmp 16,.tmp 17])  [.loc b5 _,.loc b2 _] V V V (ih (.mk k' s' n' ks') _ _ Ms by11 hCi hGi) (Yn _) (fun v18 M18 h18=>?_))
  refine Qz ?_
  obtain ⟨rfl,hG18⟩:=h18
  refine QT ?_
  refine ⟨(i+1,M18),⟨by omega,?_⟩,by simp;omega,by2,?_⟩
  ·rw [Ty.alls_take ks hx,List.foldl_append];exact hG18
  exact Yk _ (Yj _ (Yi _))
def GV (b:Nat) (acc:List ByteArray) (M:Mem):Prop:=∃ u,M=[.loc b [.own u 1 (strs acc)],.own 9 1 u]
theorem VarsF_c (b k:Nat) (acc:List ByteArray) (x:Ty) (M:Mem) (hk:acc.length+(k+1)≤2000000) (hG:GV b acc M):ACall Try.prog 57 [.agg x.cells,.ptr b 0] M (fun v M'=>v=.tup []∧GV b (addVar acc x) M'):=by
 obtain ⟨xk,xs,xn,xks⟩:=x
 obtain ⟨u,rfl⟩:=hG
 have hl:=strs_len acc
 refine Zc Try.func57 V (by kernel_rfl) V (Yq V) ?_
 refine Qi ?_
 refine Qbr ?_;intro b2
 refine Qg ?_
 refine Zo 12 (xk=1∧xs∉acc) ?_ _ _ V ?_
 ·skip
  refine Qt ?_
  refine Qx ?_;intro c5 h5
  refine Qa ?_
  obtain ⟨rfl,g5⟩|⟨rfl,g5⟩:=Za h5
  ·skip
   refine Qf ?_
   refine Qae ?_
   refine QH ?_
   refine Yp V ?_ by4 by1
   simp_all
  skip
  refine QaX ?_
  refine QL ?_
  refine Zg 10 V V V V V (Zk (xs:=[.tmp 7,.tmp 9]) V V (ContainsS_c acc xs) by0 ?_);intro c10 h10
  refine QU ?_;intro c11 h11
  try replace h11:=Yg h11 h10
  refine QH ?_
  refine Yp V ?_ by4 by1
  simp_all
 intro c12 h12
 refine Qj ?_
 obtain ⟨rfl,g12⟩|⟨rfl,g12⟩:=Za h12
 ·refine QB ?_
  refine go_end ?_
  rw [addVar_no g12];exact out_none rfl (Yk _ (Yi _)) ⟨rfl,u,rfl⟩
 refine QaT ?_
 refine Qa7 ?_
 refine Qt ?_
 refine Zb 16 V V V (Zr (xs:=[.tmp 15]) el_32 V V V V V V (Yq V) (Zb 17 V V V (op_append (i:=2) el_32 V V V V (.seq _ _) by8 ?_)))
 intro u17
 refine Zq V V (Zm (i:=1) V ts_32 V V V V V (Yq V) V ?_)
 refine Qz ?_
 refine go_end ?_
 rw [addVar_yes g12];exact out_none rfl (M':=[.loc b [.own u17 1 (strs (acc++[xs]))],.own 9 1 u17]) (Yk _ (MLe.loc _ (Yo (Le.own_eq (strs_snoc _ _)) (Yn _)) (Yi _))) ⟨rfl,u17,rfl⟩
theorem Vars_c (t:Ty) (hmx:t.size≤1000000):OCall Try.prog 34 [.agg t.cells] 9 1 (strs t.vars):=by
 have W:=fun (b:Nat) (M:Mem) (hG:GV b [] M)=>walk_c (GV b) (fun k acc=>acc.length+k≤2000000) addVar 57 [] [.ptr b 0] (fun k acc x M h1 h2=>VarsF_c b k acc x M h1 h2) (fun k acc x h=>by have:=addVar_len acc x;omega) t.size t [] 0 M (Nat.le_refl _) by8 hG
 obtain ⟨k,s,n,ks⟩:=t
 refine Zc Try.func34 V (by kernel_rfl) V (Yq V) ?_
 refine Qi ?_
 refine Qbr ?_;intro b1
 refine Q3 ?_
 refine Zb 3 V V V (Zv (cs':=[_]) V tz_32 V V ?_);intro b3
 refine Qg ?_
 refine c_mem ((MImp.ownNil b3 9 1 _).trans (MImp.perm (by simpa using List.perm_append_comm (l₁:=[_,_]) (l₂:=[_])))) ?_
 refine Qk ?_
 refine QbX ?_
 refine Qcr ?_
 refine Zb 6 V V V (op_callm (xs:=[.tmp 4,.tmp 5])  [.loc b1 _] V V V (W b3 _ ⟨.slice none 0 0,V⟩) by0 (fun v6 M6 h6=>?_))
 refine Qz ?_
 obtain ⟨rfl,u,rfl⟩:=h6
 refine Q2 ?_
 refine Qa7 ?_
 refine Qe ?_
 exact Zd V V (Ym _) by1 ⟨_,V,V⟩
abbrev tyN:Ty:=.mk 3 ⟨#[73,110,116]⟩ 0 []
abbrev tyS:Ty:=.mk 3 ⟨#[83,116,114,105,110,103]⟩ 0 []
abbrev tyB:Ty:=.mk 3 ⟨#[66,111,111,108]⟩ 0 []
abbrev tyU:Ty:=.mk 3 ⟨#[85,110,105,116]⟩ 0 []
abbrev tyA:Ty:=.mk 1 ⟨#[97]⟩ 0 []
abbrev tyR:Ty:=.mk 3 ⟨#[82,101,102]⟩ 0 [tyA]
abbrev tfn (a b:Ty):Ty:=.mk 3 arrow 0 [a,b]
abbrev primRows:List (ByteArray × Ty):=[(⟨#[112,114,105,109,65,100,100]⟩,(tfn tyN (tfn tyN tyN))),(⟨#[112,114,105,109,83,117,98]⟩,(tfn tyN (tfn tyN tyN))),(⟨#[112,114,105,109,77,117,108]⟩,(tfn tyN (tfn tyN tyN))),(⟨#[112,114,105,109,68,105,118]⟩,(tfn tyN (tfn tyN tyN))),(⟨#[112,114,105,109,77,111,100]⟩,(tfn tyN (tfn tyN tyN))),(⟨#[112,114,105,109,69,113]⟩,(tfn tyN (tfn tyN tyB))),(⟨#[112,114,105,109,76,101,115,115]⟩,(tfn tyN (tfn tyN tyB))),(⟨#[112,114,105,109,67,97,116]⟩,(tfn tyS (tfn tyS tyS))),(⟨#[112,114,105,109,83,97,109,101]⟩,(tfn tyS (tfn tyS tyB))),(⟨#[112,114,105,109,66,101,102,111,114,101]⟩,(tfn tyS (tfn tyS tyB))),(⟨#[112,114,105,109,76,101,110]⟩,(tfn tyS tyN)),(⟨#[112,114,105,109,83,104,111,119]⟩,(tfn tyN tyS)),(⟨#[112,114,105,109,80,117,116]⟩,(tfn tyS tyU)),(⟨#[112,114,105,109,71,101,116]⟩,(tfn tyU tyS)),(⟨#[112,114,105,109,78,101,119]⟩,(tfn tyA tyR)),(⟨#[112,114,105,109,82,101,97,100]⟩,(tfn tyR tyA)),(⟨#[112,114,105,109,87,114,105,116,101]⟩,(tfn tyR (tfn tyA tyU)))]
abbrev rowCells (l:List (ByteArray × Ty)):List AV:=(l.map fun r=>.val (.string r.1)::r.2.cells).flatten
theorem two_c (x y:Ty):PCall Try.prog 53 [.agg x.cells,.agg y.cells] (.agg (tfn x (tfn x y)).cells):=by
 have H1:=Fun_c x y
 have H2:=Fun_c x (tfn x y)
 obtain ⟨k1,s1,n1,l1⟩:=x
 obtain ⟨k2,s2,n2,l2⟩:=y
 refine Zc Try.func53 V (by kernel_rfl) V (Yq V) ?_
 refine Qi ?_
 refine Qbz ?_
 refine Qbz ?_
 refine Qaw ?_;intro b4
 refine Qg ?_
 refine Yh [0,1,2,3,4,5] [5] [[],[],[],[1,2],[0,1,2,3],[0,1,2,3,4]] tmix V ?_
 refine QcE ?_
 refine QcE ?_
 refine QcE ?_
 refine Zf 8 (none) (i:=3) V V V V V (Zl (xs:=[.tmp 6,.tmp 7]) V V (H1) by0 ⟨V,V⟩) ?_
 refine Zf 9 (none) (i:=4) V V V V V (Zl (xs:=[.tmp 5,.tmp 8]) V V (H2) by0 ⟨V,V⟩) ?_
 refine EOps.w 0 (i:=5) V V V V V (Zm (cs':=[_,_,_,_]) (i:=0) V ts_91 V V V V V (Yq V) V ⟨_,V,?_⟩)
 show AGo _ _ _ _ _ _ _
 refine Qs ?_
 exact Ze (i:=0) V V V ta_91 V (by repeat' (first|exact Ym _|exact Le.own _ _ _|exact Le.nil _|refine Le.agg ?_|refine Le.tup ?_|exact Yn _|refine Yo ?_ ?_)) by1 ⟨V,V⟩
theorem rows_c:PCall Try.prog 32 [] (.agg (rowCells primRows)):=by
 refine Zc Try.func32 V (by kernel_rfl) V (Yq V) ?_
 refine Qi ?_
 refine Zb 0 V V V (Zv (cs':=[_,_,_,_,_,_,_,_,_,_,_,_,_,_,_,_,_,_,_,_,_,_,_,_,_,_,_,_,_,_,_,_,_,_,_,_,_,_,_,_,_,_,_,_,_,_,_,_,_,_,_,_,_,_,_,_,_,_,_,_,_,_,_,_,_,_,_,_,_,_,_,_,_,_,_,_,_,_,_,_,_,_,_,_,_]) V tz_94 V V ?_);intro b0
 refine QaE ?_
 refine Zb 8 V V V (Zl (xs:=[.const (.string ⟨#[73,110,116]⟩),.const (.slice none 0 0)]) V V (Con_c ⟨#[73,110,116]⟩ [] by12) by0 ?_)
 refine Zb 9 V V V (Zl (xs:=[.const (.string ⟨#[83,116,114,105,110,103]⟩),.const (.slice none 0 0)]) V V (Con_c ⟨#[83,116,114,105,110,103]⟩ [] by12) by0 ?_)
 refine Zb 10 V V V (Zl (xs:=[.const (.string ⟨#[66,111,111,108]⟩),.const (.slice none 0 0)]) V V (Con_c ⟨#[66,111,111,108]⟩ [] by12) by0 ?_)
 refine Zb 11 V V V (Zl (xs:=[.const (.string ⟨#[85,110,105,116]⟩),.const (.slice none 0 0)]) V V (Con_c ⟨#[85,110,105,116]⟩ [] by12) by0 ?_)
 refine Qaw ?_;intro b1
 refine Qaw ?_;intro b2
 refine Qaw ?_;intro b3
 refine Qaw ?_;intro b4
 refine Zq V V (Zm (cs':=[_,_,_,_]) (i:=3) V ts_91 V V V V V (Yq V) V ?_)
 refine Qc5 ?_
 refine Zq V V (Zm (cs':=[_,_,_,_]) (i:=1) V ts_91 V V V V V (Yq V) V ?_)
 refine Qby ?_
 refine QaE ?_
 refine Zb 12 V V V (Zn (ns:=[0,1]) (xs:=[.const (.int .i64 1),.const (.string ⟨#[97]⟩)]) V tz_91 V tfl_91 V V V V ?_)
 refine Qaw ?_;intro b5
 refine Qby ?_
 refine Qg ?_
 refine c_le (SLe.refl _) (MLe.loc _ (cs':=tyA.cells) (by repeat' (first|exact Ym _|exact Le.nil _|exact Yn _|refine Yo ?_ ?_)) (Yi _)) ?_
 refine Qk ?_
 refine QbX ?_
 refine Zb 14 V V V (Zr (xs:=[.tmp 13]) el_89 V V V V V V (Yq V) (Zb 15 V V V (Zl (xs:=[.const (.string ⟨#[82,101,102]⟩),.tmp 14]) V V (Con_c ⟨#[82,101,102]⟩ [tyA] by12) by0 ?_)))
 refine Qaw ?_;intro b6
 refine Qby ?_
 refine QaE ?_
 refine Qu ?_
 refine Yh [0,1,2,3,4,5,6,7,8,9,10,11,12,13,14,15,16,17,18,19,20,21,22,23,24,25,26,27,28,29,30,31,32,33,34,35,36,37,38,39,40,41,42,43,44,45,46,47,48,49,50,51,52,53,54,55,56,57,58,59,60,61,62,63,64,65,66,67,68,69,70,71,72,73,74,75,76,77,78,79,80,81] [81] [[],[],[],[0,1,2],[0,1,2,3],[],[],[],[0,1,2,3,5,6,7],[0,1,2,3,5,6,7,8],[],[],[],[0,1,2,3,5,6,7,8,10,11,12],[0,1,2,3,5,6,7,8,10,11,12,13],[],[],[],[0,1,2,3,5,6,7,8,10,11,12,13,15,16,17],[0,1,2,3,5,6,7,8,10,11,12,13,15,16,17,18],[],[],[],[0,1,2,3,5,6,7,8,10,11,12,13,15,16,17,18,20,21,22],[0,1,2,3,5,6,7,8,10,11,12,13,15,16,17,18,20,21,22,23],[],[],[],[0,1,2,3,5,6,7,8,10,11,12,13,15,16,17,18,20,21,22,23,25,26,27],[0,1,2,3,5,6,7,8,10,11,12,13,15,16,17,18,20,21,22,23,25,26,27,28],[],[],[],[0,1,2,3,5,6,7,8,10,11,12,13,15,16,17,18,20,21,22,23,25,26,27,28,30,31,32],[0,1,2,3,5,6,7,8,10,11,12,13,15,16,17,18,20,21,22,23,25,26,27,28,30,31,32,33],[],[],[],[0,1,2,3,5,6,7,8,10,11,12,13,15,16,17,18,20,21,22,23,25,26,27,28,30,31,32,33,35,36,37],[0,1,2,3,5,6,7,8,10,11,12,13,15,16,17,18,20,21,22,23,25,26,27,28,30,31,32,33,35,36,37,38],[],[],[],[0,1,2,3,5,6,7,8,10,11,12,13,15,16,17,18,20,21,22,23,25,26,27,28,30,31,32,33,35,36,37,38,40,41,42],[0,1,2,3,5,6,7,8,10,11,12,13,15,16,17,18,20,21,22,23,25,26,27,28,30,31,32,33,35,36,37,38,40,41,42,43],[],[],[],[0,1,2,3,5,6,7,8,10,11,12,13,15,16,17,18,20,21,22,23,25,26,27,28,30,31,32,33,35,36,37,38,40,41,42,43,45,46,47],[0,1,2,3,5,6,7,8,10,11,12,13,15,16,17,18,20,21,22,23,25,26,27,28,30,31,32,33,35,36,37,38,40,41,42,43,45,46,47,48],[],[],[0,1,2,3,5,6,7,8,10,11,12,13,15,16,17,18,20,21,22,23,25,26,27,28,30,31,32,33,35,36,37,38,40,41,42,43,45,46,47,48,50,51],[0,1,2,3,5,6,7,8,10,11,12,13,15,16,17,18,20,21,22,23,25,26,27,28,30,31,32,33,35,36,37,38,40,41,42,43,45,46,47,48,50,51,52],[],[],[0,1,2,3,5,6,7,8,10,11,12,13,15,16,17,18,20,21,22,23,25,26,27,28,30,31,32,33,35,36,37,38,40,41,42,43,45,46,47,48,50,51,52,54,55],[0,1,2,3,5,6,7,8,10,11,12,13,15,16,17,18,20,21,22,23,25,26,27,28,30,31,32,33,35,36,37,38,40,41,42,43,45,46,47,48,50,51,52,54,55,56],[],[],[0,1,2,3,5,6,7,8,10,11,12,13,15,16,17,18,20,21,22,23,25,26,27,28,30,31,32,33,35,36,37,38,40,41,42,43,45,46,47,48,50,51,52,54,55,56,58,59],[0,1,2,3,5,6,7,8,10,11,12,13,15,16,17,18,20,21,22,23,25,26,27,28,30,31,32,33,35,36,37,38,40,41,42,43,45,46,47,48,50,51,52,54,55,56,58,59,60],[],[],[0,1,2,3,5,6,7,8,10,11,12,13,15,16,17,18,20,21,22,23,25,26,27,28,30,31,32,33,35,36,37,38,40,41,42,43,45,46,47,48,50,51,52,54,55,56,58,59,60,62,63],[0,1,2,3,5,6,7,8,10,11,12,13,15,16,17,18,20,21,22,23,25,26,27,28,30,31,32,33,35,36,37,38,40,41,42,43,45,46,47,48,50,51,52,54,55,56,58,59,60,62,63,64],[],[],[0,1,2,3,5,6,7,8,10,11,12,13,15,16,17,18,20,21,22,23,25,26,27,28,30,31,32,33,35,36,37,38,40,41,42,43,45,46,47,48,50,51,52,54,55,56,58,59,60,62,63,64,66,67],[0,1,2,3,5,6,7,8,10,11,12,13,15,16,17,18,20,21,22,23,25,26,27,28,30,31,32,33,35,36,37,38,40,41,42,43,45,46,47,48,50,51,52,54,55,56,58,59,60,62,63,64,66,67,68],[],[],[0,1,2,3,5,6,7,8,10,11,12,13,15,16,17,18,20,21,22,23,25,26,27,28,30,31,32,33,35,36,37,38,40,41,42,43,45,46,47,48,50,51,52,54,55,56,58,59,60,62,63,64,66,67,68,70,71],[0,1,2,3,5,6,7,8,10,11,12,13,15,16,17,18,20,21,22,23,25,26,27,28,30,31,32,33,35,36,37,38,40,41,42,43,45,46,47,48,50,51,52,54,55,56,58,59,60,62,63,64,66,67,68,70,71,72],[],[],[],[0,1,2,3,5,6,7,8,10,11,12,13,15,16,17,18,20,21,22,23,25,26,27,28,30,31,32,33,35,36,37,38,40,41,42,43,45,46,47,48,50,51,52,54,55,56,58,59,60,62,63,64,66,67,68,70,71,72,75,76],[0,1,2,3,5,6,7,8,10,11,12,13,15,16,17,18,20,21,22,23,25,26,27,28,30,31,32,33,35,36,37,38,40,41,42,43,45,46,47,48,50,51,52,54,55,56,58,59,60,62,63,64,66,67,68,70,71,72,74,75,76,77],[0,1,2,3,5,6,7,8,10,11,12,13,15,16,17,18,20,21,22,23,25,26,27,28,30,31,32,33,35,36,37,38,40,41,42,43,45,46,47,48,50,51,52,54,55,56,58,59,60,62,63,64,66,67,68,70,71,72,74,75,76,77,78],[0,1,2,3,4,5,6,7,8,9,10,11,12,13,14,15,16,17,18,19,20,21,22,23,24,25,26,27,28,29,30,31,32,33,34,35,36,37,38,39,40,41,42,43,44,45,46,47,48,49,50,51,52,53,54,55,56,57,58,59,60,61,62,63,64,65,66,67,68,69,70,71,72,73,74,75,76,77,78,79],[0,1,2,3,4,5,6,7,8,9,10,11,12,13,14,15,16,17,18,19,20,21,22,23,24,25,26,27,28,29,30,31,32,33,34,35,36,37,38,39,40,41,42,43,44,45,46,47,48,49,50,51,52,53,54,55,56,57,58,59,60,61,62,63,64,65,66,67,68,69,70,71,72,73,74,75,76,77,78,79,80]] tmix V ?_
 refine QD ?_
 refine Qaf ?_
 refine Qaf ?_
 refine Zf 19 (none) (i:=3) V V V V V (op_callvpp (xs:=[.tmp 17,.tmp 18]) V V V (two_c tyN tyN) by0 ⟨V,V⟩) ?_
 refine Zf 20 (none) (i:=4) V V V V V (Zn (ns:=[0,1]) (xs:=[.const (.string ⟨#[112,114,105,109,65,100,100]⟩),.tmp 19]) V tz_93 V tfl_93 V V V V ⟨V,V⟩) ?_
 refine QD ?_
 refine Qaf ?_
 refine Qaf ?_
 refine Zf 24 (none) (i:=8) V V V V V (op_callvpp (xs:=[.tmp 22,.tmp 23]) V V V (two_c tyN tyN) by0 ⟨V,V⟩) ?_
 refine Zf 25 (none) (i:=9) V V V V V (Zn (ns:=[0,1]) (xs:=[.const (.string ⟨#[112,114,105,109,83,117,98]⟩),.tmp 24]) V tz_93 V tfl_93 V V V V ⟨V,V⟩) ?_
 refine QD ?_
 refine Qaf ?_
 refine Qaf ?_
 refine Zf 29 (none) (i:=13) V V V V V (op_callvpp (xs:=[.tmp 27,.tmp 28]) V V V (two_c tyN tyN) by0 ⟨V,V⟩) ?_
 refine Zf 30 (none) (i:=14) V V V V V (Zn (ns:=[0,1]) (xs:=[.const (.string ⟨#[112,114,105,109,77,117,108]⟩),.tmp 29]) V tz_93 V tfl_93 V V V V ⟨V,V⟩) ?_
 refine QD ?_
 refine Qaf ?_
 refine Qaf ?_
 refine Zf 34 (none) (i:=18) V V V V V (op_callvpp (xs:=[.tmp 32,.tmp 33]) V V V (two_c tyN tyN) by0 ⟨V,V⟩) ?_
 refine Zf 35 (none) (i:=19) V V V V V (Zn (ns:=[0,1]) (xs:=[.const (.string ⟨#[112,114,105,109,68,105,118]⟩),.tmp 34]) V tz_93 V tfl_93 V V V V ⟨V,V⟩) ?_
 refine QD ?_
 refine Qaf ?_
 refine Qaf ?_
 refine Zf 39 (none) (i:=23) V V V V V (op_callvpp (xs:=[.tmp 37,.tmp 38]) V V V (two_c tyN tyN) by0 ⟨V,V⟩) ?_
 refine Zf 40 (none) (i:=24) V V V V V (Zn (ns:=[0,1]) (xs:=[.const (.string ⟨#[112,114,105,109,77,111,100]⟩),.tmp 39]) V tz_93 V tfl_93 V V V V ⟨V,V⟩) ?_
 refine QD ?_
 refine Qaf ?_
 refine Qcg ?_
 refine Zf 44 (none) (i:=28) V V V V V (op_callvpp (xs:=[.tmp 42,.tmp 43]) V V V (two_c tyN tyB) by0 ⟨V,V⟩) ?_
 refine Zf 45 (none) (i:=29) V V V V V (Zn (ns:=[0,1]) (xs:=[.const (.string ⟨#[112,114,105,109,69,113]⟩),.tmp 44]) V tz_93 V tfl_93 V V V V ⟨V,V⟩) ?_
 refine QD ?_
 refine Qaf ?_
 refine Qcg ?_
 refine Zf 49 (none) (i:=33) V V V V V (op_callvpp (xs:=[.tmp 47,.tmp 48]) V V V (two_c tyN tyB) by0 ⟨V,V⟩) ?_
 refine Zf 50 (none) (i:=34) V V V V V (Zn (ns:=[0,1]) (xs:=[.const (.string ⟨#[112,114,105,109,76,101,115,115]⟩),.tmp 49]) V tz_93 V tfl_93 V V V V ⟨V,V⟩) ?_
 refine QD ?_
 refine Qbs ?_
 refine Qbs ?_
 refine Zf 54 (none) (i:=38) V V V V V (op_callvpp (xs:=[.tmp 52,.tmp 53]) V V V (two_c tyS tyS) by0 ⟨V,V⟩) ?_
 refine Zf 55 (none) (i:=39) V V V V V (Zn (ns:=[0,1]) (xs:=[.const (.string ⟨#[112,114,105,109,67,97,116]⟩),.tmp 54]) V tz_93 V tfl_93 V V V V ⟨V,V⟩) ?_
 refine QD ?_
 refine Qbs ?_
 refine Qcg ?_
 refine Zf 59 (none) (i:=43) V V V V V (op_callvpp (xs:=[.tmp 57,.tmp 58]) V V V (two_c tyS tyB) by0 ⟨V,V⟩) ?_
 refine Zf 60 (none) (i:=44) V V V V V (Zn (ns:=[0,1]) (xs:=[.const (.string ⟨#[112,114,105,109,83,97,109,101]⟩),.tmp 59]) V tz_93 V tfl_93 V V V V ⟨V,V⟩) ?_
 refine QD ?_
 refine Qbs ?_
 refine Qcg ?_
 refine Zf 64 (none) (i:=48) V V V V V (op_callvpp (xs:=[.tmp 62,.tmp 63]) V V V (two_c tyS tyB) by0 ⟨V,V⟩) ?_
 refine Zf 65 (none) (i:=49) V V V V V (Zn (ns:=[0,1]) (xs:=[.const (.string ⟨#[112,114,105,109,66,101,102,111,114,101]⟩),.tmp 64]) V tz_93 V tfl_93 V V V V ⟨V,V⟩) ?_
 refine Qbs ?_
 refine Qaf ?_
 refine Zf 68 (none) (i:=52) V V V V V (Zl (xs:=[.tmp 66,.tmp 67]) V V (Fun_c tyS tyN) by0 ⟨V,V⟩) ?_
 refine Zf 69 (none) (i:=53) V V V V V (Zn (ns:=[0,1]) (xs:=[.const (.string ⟨#[112,114,105,109,76,101,110]⟩),.tmp 68]) V tz_93 V tfl_93 V V V V ⟨V,V⟩) ?_
 refine Qaf ?_
 refine Qbs ?_
 refine Zf 72 (none) (i:=56) V V V V V (Zl (xs:=[.tmp 70,.tmp 71]) V V (Fun_c tyN tyS) by0 ⟨V,V⟩) ?_
 refine Zf 73 (none) (i:=57) V V V V V (Zn (ns:=[0,1]) (xs:=[.const (.string ⟨#[112,114,105,109,83,104,111,119]⟩),.tmp 72]) V tz_93 V tfl_93 V V V V ⟨V,V⟩) ?_
 refine Qbs ?_
 refine Qcf ?_
 refine Zf 76 (none) (i:=60) V V V V V (Zl (xs:=[.tmp 74,.tmp 75]) V V (Fun_c tyS tyU) by0 ⟨V,V⟩) ?_
 refine Zf 77 (none) (i:=61) V V V V V (Zn (ns:=[0,1]) (xs:=[.const (.string ⟨#[112,114,105,109,80,117,116]⟩),.tmp 76]) V tz_93 V tfl_93 V V V V ⟨V,V⟩) ?_
 refine Qcf ?_
 refine Qbs ?_
 refine Zf 80 (none) (i:=64) V V V V V (Zl (xs:=[.tmp 78,.tmp 79]) V V (Fun_c tyU tyS) by0 ⟨V,V⟩) ?_
 refine Zf 81 (none) (i:=65) V V V V V (Zn (ns:=[0,1]) (xs:=[.const (.string ⟨#[112,114,105,109,71,101,116]⟩),.tmp 80]) V tz_93 V tfl_93 V V V V ⟨V,V⟩) ?_
 refine QbY ?_
 refine QcF ?_
 refine Zf 84 (none) (i:=68) V V V V V (Zl (xs:=[.tmp 82,.tmp 83]) V V (Fun_c tyA tyR) by0 ⟨V,V⟩) ?_
 refine Zf 85 (none) (i:=69) V V V V V (Zn (ns:=[0,1]) (xs:=[.const (.string ⟨#[112,114,105,109,78,101,119]⟩),.tmp 84]) V tz_93 V tfl_93 V V V V ⟨V,V⟩) ?_
 refine QcF ?_
 refine QbY ?_
 refine Zf 88 (none) (i:=72) V V V V V (Zl (xs:=[.tmp 86,.tmp 87]) V V (Fun_c tyR tyA) by0 ⟨V,V⟩) ?_
 refine Zf 89 (none) (i:=73) V V V V V (Zn (ns:=[0,1]) (xs:=[.const (.string ⟨#[112,114,105,109,82,101,97,100]⟩),.tmp 88]) V tz_93 V tfl_93 V V V V ⟨V,V⟩) ?_
 refine QcF ?_
 refine QbY ?_
 refine Qcf ?_
 refine Zf 93 (none) (i:=77) V V V V V (Zl (xs:=[.tmp 91,.tmp 92]) V V (Fun_c tyA tyU) by0 ⟨V,V⟩) ?_
 refine Zf 94 (none) (i:=78) V V V V V (Zl (xs:=[.tmp 90,.tmp 93]) V V (Fun_c tyR (tfn tyA tyU)) by0 ⟨V,V⟩) ?_
 refine Zf 95 (none) (i:=79) V V V V V (Zn (ns:=[0,1]) (xs:=[.const (.string ⟨#[112,114,105,109,87,114,105,116,101]⟩),.tmp 94]) V tz_93 V tfl_93 V V V V ⟨V,V⟩) ?_
 refine Zf 96 (none) (i:=80) V V V V V (op_build_arr (ns:=[0,1,2,3,4,5,6,7,8,9,10,11,12,13,14,15,16]) (xs:=[.tmp 20,.tmp 25,.tmp 30,.tmp 35,.tmp 40,.tmp 45,.tmp 50,.tmp 55,.tmp 60,.tmp 65,.tmp 69,.tmp 73,.tmp 77,.tmp 81,.tmp 85,.tmp 89,.tmp 95]) V tz_94 V tu_94 ts_93 V V V V ⟨V,V⟩) ?_
 refine EOps.w 6 (i:=81) V V V V V (Zm (i:=0) V ts_94 V V V V V (Yq V) V ⟨_,V,?_⟩)
 show AGo _ _ _ _ _ _ _
 refine Qs ?_
 exact Ze (i:=6) V V V ta_94 V (Ym _) by1 ⟨V,V⟩
theorem rowCells_get:∀ {l:List (ByteArray × Ty)} {i:Nat} {s:ByteArray} {t:Ty},l[i]?=some (s,t)→((rowCells l).drop (i * 5)).take 5=.val (.string s)::t.cells
 | [],i,s,t,h=>by simp at h
 |(s',⟨k,n,m,ks⟩)::l,0,s,t,h=>by
  simp at h;obtain ⟨rfl,rfl⟩:=h
  simp [rowCells,Ty.cells]
 |(s',⟨k,n,m,ks⟩)::l,i+1,s,t,h=>by
  have:=rowCells_get (l:=l) (i:=i) (by simpa using h)
  rw [← this]
  have e:(i+1) * 5=i * 5+5:=by omega
  rw [e]
  simp [rowCells,Ty.cells]
noncomputable def prOf (i:Nat) (r:ByteArray × Ty):Pm:=⟨r.1,i+1,r.2.args.length,⟨r.2.vars,[],r.2⟩⟩
noncomputable def prm:Nat→List (ByteArray × Ty)→List Pm
 | _,[]=>[]
 | i,r::rs=>prOf i r::prm (i+1) rs
theorem prm_take:∀ (l:List (ByteArray × Ty)) (j i:Nat) (r:ByteArray × Ty),l[i]?=some r→prm j (l.take (i+1))=prm j (l.take i)++[prOf (j+i) r]
 | [],j,i,r,h=>by simp at h
 | x::l,j,0,r,h=>by simp at h;subst h;simp [prm]
 | x::l,j,i+1,r,h=>by
  have:=prm_take l (j+1) i r (by simpa using h)
  simp only [List.take_succ_cons,prm,this,List.cons_append]
  rw [Nat.add_right_comm];rfl
theorem prm_len:∀ (l:List (ByteArray × Ty)) (j:Nat),(prm j l).length=l.length
 | [],j=>rfl
 | x::l,j=>by simp [prm,prm_len l]
noncomputable def prims:List Pm:=prm 0 primRows
theorem prims_len:prims.length=17:=by unfold prims;rw [prm_len];rfl
theorem notFun {k:Int} {s:ByteArray} {n:Int} {ks:List Ty} (h:ks.length≠2):¬ (Ty.mk k s n ks).isFun:=fun q=>h q.2.2
theorem rows_size:∀ r∈primRows,r.2.size≤100:=by
 simp [Ty.size,Ty.sizes]
set_option maxHeartbeats 1000000 in
theorem prims_n:prims.map Pm.n=[2,2,2,2,2,2,2,2,2,2,1,1,1,1,1,1,2]:=by
 have a0:∀ (k:Int) (s:ByteArray) (n:Int),(Ty.mk k s n []).args=[]:=fun k s n=>Ty.args_not (notFun by12)
 have a1:∀ (k:Int) (s:ByteArray) (n:Int) (x:Ty),(Ty.mk k s n [x]).args=[]:=fun k s n x=>Ty.args_not (notFun by12)
 simp [prims,prm,prOf,Pm.n,Ty.args_fun,a0,a1]
theorem Prims_c:PCall Try.prog 19 [] (.seq 9 (Pm.cellss prims)):=by
 refine Zc Try.func19 V (by kernel_rfl) V (Yq V) ?_
 refine Qi ?_
 refine Q3 ?_
 refine Qbj ?_
 refine ACode.ownNil (t:=1) 103 9 V ?_
 refine Qk ?_
 refine Zb 6 V V V (Zl (xs:=[]) V V (rows_c) by0 ?_)
 refine Qv ?_
 apply c_loopk (rg [(1,5),(7,27)]) (σ:=Nat × Value) (fun zz=>match zz with|(i,u)=>[(7,.val (.int .i64 i)),(1,.own u 9 (Pm.cellss (prm 0 (primRows.take i))))]) (fun zz=>match zz with|(i,u)=>[.own 103 9 u]) (fun zz=>match zz with|(i,u)=>i≤17) (fun zz=>match zz with|(i,u)=>17 - i) ((0,.slice none 0 0))
 ·repeat' (first|exact Yt|apply Yr rfl|apply Ys rfl)
 ·simp
 ·exact by2
 ·exact by1
 rintro ⟨i,u⟩ hI
 try dsimp only [List.cons_append,List.nil_append] at hI ⊢
 refine Qw ?_;intro c8 h8
 refine Qg ?_
 obtain ⟨rfl,g8⟩|⟨rfl,g8⟩:=Za h8
 ·refine Qao ?_
  refine Qj ?_
  refine Qr ?_
  refine Qe ?_
  refine Zd V V ?_ by1 ⟨V,V⟩
  rw [show primRows.take i=primRows from List.take_of_length_le by8]
  exact Le.own _ _ _
 refine Qp ?_
 obtain ⟨⟨s,⟨tk,ts,tn,tks⟩⟩,hx⟩:=Zh (l:=primRows) (i:=i) by8
 have hc:=rowCells_get hx
 have hsz:=rows_size _ (Yu hx)
 have hpt:=prm_take primRows 0 i _ hx
 have HV:=(Vars_c ⟨tk,ts,tn,tks⟩ (by simp only at hsz;omega)).pure
 have HA:=Args_c ⟨tk,ts,tn,tks⟩ (by simp only at hsz;omega)
 have hln:=prm_len (primRows.take i) 0
 have hcl:=Pm.cellss_len (prm 0 (primRows.take i))
 simp only [List.length_take] at hln
 have hal:=Ty.cellss_len (Ty.args ⟨tk,ts,tn,tks⟩)
 simp only [prOf,Nat.zero_add] at hpt
 generalize Ty.vars ⟨tk,ts,tn,tks⟩=vs at *
 generalize Ty.args ⟨tk,ts,tn,tks⟩=ags at *
 generalize Ty.ans ⟨tk,ts,tn,tks⟩=an at *
 obtain ⟨ak,as',an,als⟩:=an
 refine Qn ?_
 refine Zb 10 V V V (op_index_av (cs':=[_,_,_,_,_]) V tu_94 ta_93 V V V by11 (hc) ?_)
 refine Zb 3 V V V (Zv (cs':=[_,_,_,_,_]) V tz_93 V V ?_);intro b3
 refine Qa3 ?_
 refine Zq V V (Zm (cs':=[_,_,_,_,_]) (i:=0) V ts_93 V V V V V (Yq V) V ?_)
 refine QaE ?_
 refine QC ?_
 refine QbX ?_
 refine Zb 14 V V V (Zl (xs:=[.tmp 13]) V V (HA) by0 ?_)
 refine Qa ?_
 refine QaW ?_
 refine QaW ?_
 refine Qaw ?_;intro b5
 refine Qa3 ?_
 refine Qby ?_
 refine Qd ?_
 refine Yh [0,1,2,3,4,5,6,7,8,9,10,11,12,13,14,15,16] [15] [[],[],[1],[],[3],[],[5],[],[7],[7,8],[],[10],[7,8,9,10,11],[1,2,3,4,5,6,7,8,9,10,11,12],[1,2,3,4,5,6,7,8,9,10,11,12,13],[0,1,2,3,4,5,6,7,8,9,10,11,12,13,14],[0,1,2,3,4,5,6,7,8,9,10,11,12,13,14,15]] tmix V ?_
 refine QD ?_
 refine QA ?_
 refine Qch ?_
 refine QD ?_
 refine Zf 21 (none) (i:=4) V V V V V (op_add V V V (IntWalk.i64_in _ by11) ⟨V,V⟩) ?_
 refine QD ?_
 refine Zf 23 none (i:=6) V V V V V (Ya V tu_89 V (.seq _ _) (fun _=>⟨V,V⟩)) ?_
 refine QA ?_
 refine QbY ?_
 refine Zf 26 (none) (i:=9) V V V V V (Zl (xs:=[.tmp 25]) V V (HV) by0 ⟨V,V⟩) ?_
 refine QA ?_
 refine QbY ?_
 refine Zf 29 (none) (i:=12) V V V V V (Zn (ns:=[0,2]) (xs:=[.tmp 26,.tmp 28]) V tz_101 V tfl_101 V V V V ⟨V,V⟩) ?_
 refine Zf 30 (none) (i:=13) V V V V V (Zn (ns:=[0,1,2,3]) (xs:=[.tmp 19,.tmp 21,.tmp 23,.tmp 29]) V tz_103 V tfl_103 V V V V ⟨V,V⟩) ?_
 refine Zf 31 (none) (i:=14) V V V V V (Zr (xs:=[.tmp 30]) el_71 V V V V V V (Yq V) ⟨V,V⟩) ?_
 refine EOps.w 2 (i:=15) V V V V V (op_append (i:=0) el_71 V V V V (.seq _ _) (by simp only [List.length_map,List.length_reverse,List.length_cons,List.length_nil];omega) (fun u32=>⟨_,V,?_⟩))
 refine Zf 1 (none) (i:=16) V V V V V (op_assign V V ⟨V,V⟩) ?_
 show AGo _ _ _ _ _ _ _
 refine QT ?_
 refine ⟨(i+1,u32),by show i+1≤17;omega,by simp;omega,?_,by1⟩
 refine SLe.cons V (Ym _) (SLe.cons V ?_ by2)
 rw [hpt]
 simp only [Pm.cellss,List.map_append,List.map_cons,List.map_nil]
 exact Le.own_lessA (Less.app (Less.refl _) (Less.cons (Yo (Ym _) (Yo (Ym _) (Yo (Le.ieq by11) (Yo (Ym _) (Yo (Le.nil _) (Yn _)))))) V Less.nil))
def takes (n:Int):Int:=if n<1∨n > 17 then -1 else if n<11∨n=17 then 2 else 1
def one1 (op:Int):Prop:=op=1∨op=7∨op=9∨op=10∨op=11
def two2 (op:Int):Prop:=op=5∨op=6
def lst3 (op:Int):Prop:=op=3∨op=8
theorem takes_iff (n:Int) (len:Nat):(1≤n∧n≤prims.length∧∀ p,prims[(n - 1).toNat]?=some p→(len:Int)=p.n)↔(len:Int)=takes n:=by
 have hl:=prims_len
 have hn:=prims_n
 by_cases h:n<1∨n > 17
 ·have e:takes n = -1:=by unfold takes;rw [if_pos h]
  rw [e]
  constructor
  ·intro q;omega
  intro q;omega
 have hlt:(n - 1).toNat<prims.length:=by omega
 have hget:prims[(n - 1).toNat]?=some prims[(n - 1).toNat]:=List.getElem?_eq_getElem hlt
 have hv:(prims[(n - 1).toNat]).n=takes n:=by
  have e:(prims.map Pm.n)[(n - 1).toNat]?=some (prims[(n - 1).toNat]).n:=by rw [List.getElem?_map,hget];rfl
  rw [hn] at e
  have hc:n=1∨n=2∨n=3∨n=4∨n=5∨n=6∨n=7∨n=8∨n=9∨n=10∨n=11∨n=12∨n=13∨n=14∨n=15∨n=16∨n=17:=by omega
  generalize (prims[(n - 1).toNat]).n=v at e
  rcases hc with rfl|rfl|rfl|rfl|rfl|rfl|rfl|rfl|rfl|rfl|rfl|rfl|rfl|rfl|rfl|rfl|rfl <;> simp [takes] at e ⊢ <;> omega
 rw [← hv]
 constructor
 ·intro q;exact q.2.2 _ hget
 intro q
 refine ⟨by omega,by omega,fun p hp=>?_⟩
 rw [hget] at hp;cases hp;exact q
def topOf (op gl sl:Int):Int:=if op=10 then gl else sl
def RefP (c:Cd) (f:Cf) (fr:Int) (i:Is):Prop :=
 (1≤i.op∧i.op≤15)∧(∀ a∈i.ar,AtomP f c.gl a) ∧
 ((opA i.op=true→0≤i.a∧i.a<topOf i.op c.gl f.sl)∧(¬ opA i.op=true→i.a=0)∧(¬ opB i.op=true→i.b=0)∧(¬ opN i.op=true→i.n=0)) ∧
 ((i.op=2→0≤i.b∧i.b<c.tx.length)∧(i.op > 12∧opB i.op=true→fr≤i.b∧i.b<fr+f.len)) ∧
 ((one1 i.op→i.ar.length=1)∧(two2 i.op→i.ar.length=2)∧(¬ one1 i.op∧¬ two2 i.op∧¬ lst3 i.op→i.ar.length=0)) ∧
 ((i.op=3→i.ar.length≠0∧0≤i.n∧i.n≤65535)∧(i.op=9∨i.op=12→0≤i.n∧i.n≤1048576)) ∧
 (i.op=8→(i.ar.length:Int)=takes i.n)∧FixP c f i
theorem InsP_iff (c:Cd) (f:Cf) (fr:Int) (i:Is):InsP prims c f fr (fr+f.len) i↔RefP c f fr i:=by
 unfold InsP RefP PlaP NumP
 rw [takes_iff]
 obtain ⟨op,a,b,n,ar,fs,ca⟩:=i
 simp only [Is.op,Is.a,Is.b,Is.n,Is.ar]
 rw [opOk_iff]
 generalize FixP c f ⟨op,a,b,n,ar,fs,ca⟩=pF
 generalize (∀ a∈ar,AtomP f c.gl a)=pA
 generalize takes n=tn
 generalize c.gl=gl
 generalize f.sl=sl
 generalize c.tx.length=tl
 generalize f.len=fl
 generalize ar.length=al
 by_cases hop:1≤op∧op≤15
 ·have hc:op=1∨op=2∨op=3∨op=4∨op=5∨op=6∨op=7∨op=8∨op=9∨op=10∨op=11∨op=12∨op=13∨op=14∨op=15:=by omega
  by_cases hA:pA <;> by_cases hF:pF
  ·simp only [hA,hF,and_true,true_and]
   rcases hc with rfl|rfl|rfl|rfl|rfl|rfl|rfl|rfl|rfl|rfl|rfl|rfl|rfl|rfl|rfl <;> simp [opA,opB,opN,opG,one1,two2,lst3,topOf] <;> omega
  all_goals simp only [hA,hF,and_false,false_and,and_true]
 simp only [hop,false_and]
theorem ACall.bal {P:Program} {f:FuncId} {vs:List AV} {p q:Prop} (h:BCall P f vs p) (e:p↔q):BCall P f vs q :=
 h.mono (by rintro v M' ⟨⟨c,hc,rfl⟩,rfl⟩;exact ⟨⟨c,hc.trans e,rfl⟩,rfl⟩)
section
variable {P:Program} {n:Nat} {al:Sl} {M:Mem} {o:Oper} {K:AV→Mem→Prop}
theorem BCall.no {f:FuncId} {vs:List AV} {p:Prop} (h:BCall P f vs p) (hp:¬ p):PCall P f vs (.val (.bool false)) :=
 h.mono (by rintro v M' ⟨⟨c,hc,rfl⟩,rfl⟩;exact ⟨by cases c <;> simp_all,rfl⟩)
theorem Inv.kept {B:Nat} {F:EH} {M:Mem} {w w':World} (hi:Inv B F M w) (hb:Below w.heap.size w w'):Inv B F M w':=by
 refine ⟨Nat.le_trans hi.base hb.size,fun b i x h=>?_,fun r hr=>?_,hi.far⟩
 ·have h1:=hi.fix b i x h
  rw [hb.cell (p:=⟨b,i,none⟩) (cell_size h1)];exact h1
 exact (hi.ok r hr).stay (Ext.refl F) (fun b hbk=>⟨hb.block b ((hi.ok r hr).lt hbk),fun _=>V⟩)
end
section
variable {P:Program} {n:Nat} {al:Sl} {M:Mem} {o:Oper} {K:AV→Mem→Prop}
end
section
variable {P:Program} {al:Sl} {M:Mem} {K:AV→Mem→Prop} {o:Oper}
end
section
variable {P:Program} {al:Sl} {M:Mem} {K:AV→Mem→Prop} {o:Oper}
theorem Le.nilOwn (m:Nat):Le (.val (.slice none 0 0)) (.own (.slice none 0 0) m []):=fun F u h=>by
 cases h;exact .own _ (.seq0 m none 0 (fun _=>rfl))
theorem c_ownNew {ro:Option Nat} {n:Nat} {ks:List Kont} {Q:Exit→Sl→Mem→Prop} {c:Code} (e:TypeId) (m:Nat) (h:ACode ro P n c (after ro P n ks Q) al (M++[.own e m (.slice none 0 0)])):ACode ro P n c (after ro P n ks Q) al M:=fun B F Mf a w hi hs=>by
 refine h B F Mf a w ?_ hs
 refine (hi.ownNil e m).perm ?_
 have:(Res.own e m (.slice none 0 0)::(M++Mf)).Perm (M++Res.own e m (.slice none 0 0)::Mf):=List.perm_middle.symm
 simpa using this
end
theorem take_getS {α:Type} {l:List α} {i:Nat} {x:α} (h:l[i]?=some x):l.take (i+1)=l.take i++[x]:=by
 rw [List.take_add_one,h];rfl
theorem leavesc_len:∀ l:List Dc,(Dc.leavess l).length≤Dc.sizes l
 | []=>Nat.le_refl _
 | .mk _ _ _ d::l=>by
  have:=leavesc_len l
  have:=leaves_len d
  rw [Dc.leavess,Dc.sizes,Dc.size,List.length_append];omega
theorem leavese_len:∀ l:List De,(De.leavess l).length≤De.sizes l
 | []=>Nat.le_refl _
 | d::l=>by
  have:=leavese_len l
  have:=leaves_len d
  rw [De.leavess,De.sizes,List.length_append];omega
theorem dc_leaves_take {l:List Dc} {i:Nat} {x:Dc} (h:l[i]?=some x):Dc.leavess (l.take (i+1))=Dc.leavess (l.take i)++x.d.leaves:=by
 obtain ⟨_,_,_,d⟩:=x
 rw [take_getS h,Dc.leavess_map,Dc.leavess_map]
 simp [Dc.d]
theorem de_leaves_take {l:List De} {i:Nat} {x:De} (h:l[i]?=some x):De.leavess (l.take (i+1))=De.leavess (l.take i)++x.leaves:=by
 rw [take_getS h,De.leavess_map,De.leavess_map]
 simp
theorem dc_leaves_le (l:List Dc) (i:Nat):(Dc.leavess (l.take i)).length≤Dc.sizes l:=by
 refine Nat.le_trans ?_ (leavesc_len l)
 have e:Dc.leavess l=Dc.leavess (l.take i)++Dc.leavess (l.drop i):=by
  simp only [Dc.leavess_map]
  rw [← List.flatten_append,← List.map_append,List.take_append_drop]
 rw [e,List.length_append];omega
theorem de_leaves_le (l:List De) (i:Nat):(De.leavess (l.take i)).length≤De.sizes l:=by
 refine Nat.le_trans ?_ (leavese_len l)
 have e:De.leavess l=De.leavess (l.take i)++De.leavess (l.drop i):=by
  simp only [De.leavess_map]
  rw [← List.flatten_append,← List.map_append,List.take_append_drop]
 rw [e,List.length_append];omega
theorem Leaves_c (N:Nat):∀ d:De,d.size≤N→d.size≤100000000→PCall Try.prog 68 [.agg d.cells] (.seq 1 (nums d.leaves)):=by
 induction N with
 | zero=>intro d h;have:=d.size_pos;omega
 | succ N IH =>
  rintro ⟨k,a,p,cs,es⟩ hN hb
  rw [De.size] at hN hb
  have hcn:=Dc.cellss_len cs
  have hen:=De.cellss_len es
  rw [De.leaves]
  refine Zc Try.func68 V (by kernel_rfl) V (Yq V) ?_
  refine Qi ?_
  refine Qbo ?_
  refine QaS ?_
  refine Qd ?_
  refine QN ?_
  refine QK ?_;intro c11 h11
  refine Qb ?_
  obtain ⟨rfl,g11⟩|⟨rfl,g11⟩:=Za h11
  ·refine QI ?_;intro c16 h16
   refine Qb ?_
   obtain ⟨rfl,g16⟩|⟨rfl,g16⟩:=Za h16
   ·refine QB ?_
    refine go_blk ?_
    refine Q2 ?_
    refine Zb 43 V V V (Zr (xs:=[.const (.int .i64 (-1))]) el_43 V V V V V V (Yq V) ?_)
    refine Qe ?_
    exact Zd V V (Ym _) by1 ⟨by rw [if_neg g11,if_neg g16];rfl,V⟩
   refine Q6 ?_
   refine QaS ?_
   refine Qb9 ?_;intro n19
   refine Qv ?_
   refine c_ownNew 3 1 ?_
   apply c_loopk (rg [(0,1),(3,4),(8,10),(20,10)]) (σ:=Nat × Value) (fun zz=>match zz with|(i,u)=>[(3,.own u 1 (nums (Dc.leavess (cs.take i)))),(20,.val (.int .i64 (i:Nat)))]) (fun zz=>match zz with|(i,u)=>[.own 3 1 u]) (fun zz=>match zz with|(i,u)=>i≤cs.length) (fun zz=>match zz with|(i,u)=>cs.length - i) ((0,.slice none 0 0))
   ·repeat' (first|exact Yt|apply Yr rfl|apply Ys rfl)
   ·exact Nat.zero_le _
   ·exact SLe.cons V (Le.nilOwn 1) (SLe.cons V (Ym _) (SLe.nil _))
   ·exact (Yl V)
   rintro ⟨i,u⟩ hI
   try dsimp only [List.cons_append,List.nil_append] at hI ⊢
   have hi:=hI
   refine Qw ?_;intro c21 h21
   refine Qg ?_
   obtain ⟨rfl,g21⟩|⟨rfl,g21⟩:=Za h21
   ·refine Qac ?_
    refine Qo ?_
    rw [List.take_of_length_le by11]
    refine QaV ?_
    refine Qca ?_;intro n32
    refine Qv ?_
    apply c_loopk (rg [(0,2),(3,28),(33,9)]) (σ:=Nat × Value) (fun zz=>match zz with|(j,v)=>[(3,.own v 1 (nums (Dc.leavess cs++De.leavess (es.take j)))),(33,.val (.int .i64 (j:Nat)))]) (fun zz=>match zz with|(j,v)=>[.own 3 1 v]) (fun zz=>match zz with|(j,v)=>j≤es.length) (fun zz=>match zz with|(j,v)=>es.length - j) ((0,u))
    ·repeat' (first|exact Yt|apply Yr rfl|apply Ys rfl)
    ·exact Nat.zero_le _
    ·exact SLe.cons V (Le.own_eq (by simp [De.leavess])) (SLe.cons V (Ym _) (SLe.nil _))
    ·exact (Yl V)
    rintro ⟨j,v⟩ hI
    try dsimp only [List.cons_append,List.nil_append] at hI ⊢
    have hj:=hI
    refine Qw ?_;intro c34 h34
    refine Qg ?_
    obtain ⟨rfl,g34⟩|⟨rfl,g34⟩:=Za h34
    ·refine Qao ?_
     refine Qj ?_
     refine Qr ?_
     refine Qe ?_
     refine Zd (R:=fun v M'=>_) V V (Le.own _ _ _) by1 ⟨?_,V⟩
     rw [if_neg g11,if_pos g16,List.take_of_length_le by11]
    refine Qp ?_
    obtain ⟨x,hx⟩:=Zh (l:=es) (i:=j) by11
    have hcx:=De.cellss_get hx
    have hsx:=De.sizes_get hx
    have hlt:=de_leaves_take hx
    have hl1:=de_leaves_le es (j+1)
    have hl0:=leavesc_len cs
    rw [hlt,List.length_append] at hl1
    have H:=IH x by11 by11
    generalize x.leaves=xl at *
    obtain ⟨dk,da,dp,dc,de⟩:=x
    simp only [De.cells] at hcx H
    refine Qk ?_
    refine Zb 35 V V V (Zj V te_46 V (.seq _ _) V V (hcx) ?_)
    refine QbG ?_
    refine Zb 7 V V V (Zv (cs':=[_,_,_,_,_]) V tz_48 V V ?_);intro b7
    refine Zq V V (Zm (cs':=[_,_,_,_,_]) (i:=0) V ts_48 V V V V V (Yq V) V ?_)
    refine Qd ?_
    refine Qn ?_
    refine Qcy ?_
    refine Zb 39 V V V (Zl (xs:=[.tmp 38]) V V (H) by0 ?_)
    refine Zb 40 V V V (op_append (i:=1) el_43 V V V V (.seq _ _) (by rw [nums_len,nums_len,List.length_append];omega) ?_)
    intro u40
    refine QaH ?_
    refine QT ?_
    exact ⟨(j+1,u40),by show j+1≤es.length;omega,by show es.length - (j+1)<es.length - j;omega,SLe.cons V (Le.own_eq (by show _=nums (Dc.leavess cs++De.leavess (es.take (j+1)));rw [hlt];simp [nums])) by2,by1⟩
   refine Qp ?_
   obtain ⟨x,hx⟩:=Zh (l:=cs) (i:=i) by11
   have hcx:=Dc.cellss_get hx
   have hsx:=Dc.sizes_get hx
   have hlt:=dc_leaves_take hx
   have hl1:=dc_leaves_le cs (i+1)
   rw [hlt,List.length_append] at hl1
   obtain ⟨xk,xs,xn,xd⟩:=x
   rw [Dc.size] at hsx
   have H:=IH xd by11 by11
   simp only [Dc.d] at hlt hl1
   generalize xd.leaves=xl at *
   obtain ⟨dk,da,dp,dc,de⟩:=xd
   simp only [Dc.cells,De.cells] at hcx H
   refine Qk ?_
   refine Zb 22 V V V (Zj V te_45 V (.seq _ _) V V (hcx) ?_)
   refine Qcx ?_
   refine Qc6 ?_;intro b5
   refine Qc7 ?_
   refine Qd ?_
   refine Qn ?_
   refine QC ?_
   refine Qcy ?_
   refine Zb 27 V V V (Zl (xs:=[.tmp 26]) V V (H) by0 ?_)
   refine Zb 28 V V V (op_append (i:=1) el_43 V V V V (.seq _ _) (by rw [nums_len,nums_len];omega) ?_)
   intro u28
   refine QaH ?_
   refine QT ?_
   exact ⟨(i+1,u28),by show i+1≤cs.length;omega,by show cs.length - (i+1)<cs.length - i;omega,SLe.cons V (Le.own_eq (by show _=nums (Dc.leavess (cs.take (i+1)));rw [hlt];simp [nums])) by2,by1⟩
  refine Q6 ?_
  refine Ql ?_
  refine Zb 14 V V V (Zr (xs:=[.tmp 13]) el_43 V V V V V V (Yq V) ?_)
  refine Qe ?_
  exact Zd V V (Ym _) by1 ⟨by rw [if_pos g11];rfl,V⟩
abbrev crCells (a:Af) (f:Fu) (ps:List Pm):List AV:=a.cells++(f.cells++[.seq 9 (Pm.cellss ps)])
theorem neg_c (n:Int):BCall Try.prog 83 ([]++[.val (.int .i64 n)]++[]) (n<0):=by
 refine Zc Try.func83 V (by kernel_rfl) V (Yq V) ?_
 refine Qi ?_
 refine Qb ?_
 refine Qr ?_
 refine Qav ?_;intro c4 h4
 refine Qe ?_
 exact Zd V V (Ym _) by1 ⟨⟨_,h4,V⟩,V⟩
theorem few_c (n:Int):BCall Try.prog 18 ([]++[.val (.int .i64 n)]++[]) (0≤n∧n≤1048576):=by
 refine Zc Try.func18 V (by kernel_rfl) V (Yq V) ?_
 refine Qi ?_
 refine Qu ?_
 refine Zo 2 (0≤n∧n≤1048576) ?_ _ _ V ?_
 ·skip
  refine Qa ?_
  refine Qak ?_;intro c4 h4
  refine Qa ?_
  obtain ⟨rfl,g4⟩|⟨rfl,g4⟩:=Za h4
  ·skip
   refine Qat ?_
   refine Yp V ?_ by4 by1
   simp_all;omega
  skip
  refine QE ?_
  refine Qbp ?_;intro c7 h7
  refine Qm ?_
  refine Yp V ?_ by4 by1
  simp_all;done
 intro c2 h2
 refine Qs ?_
 exact Zd V V (Ym _) by1 ⟨⟨_,h2,V⟩,V⟩
theorem paths2_c (c:Dc) (H:BCall Try.prog 69 [.agg c.d.cells] c.d.paths):BCall Try.prog 85 ([]++[.agg c.cells]++[]) c.d.paths:=by
 obtain ⟨k,s,n,⟨dk,da,dp,dc,de⟩⟩:=c
 simp only [Dc.d,De.cells,Dc.cells] at H ⊢
 generalize (De.mk dk da dp dc de).paths=P at *
 refine Zc Try.func85 V (by kernel_rfl) V (Yq V) ?_
 refine Qi ?_
 refine QbA ?_
 refine Q3 ?_
 refine QaG ?_
 refine QbG ?_
 refine Zb 5 V V V (Zk (xs:=[.tmp 4]) V V (H) by0 ?_);intro c5 h5
 refine Qe ?_
 exact Zd V V (Ym _) by1 ⟨⟨_,h5,V⟩,V⟩
theorem paths_c (N:Nat):∀ d:De,d.size≤N→BCall Try.prog 69 [.agg d.cells] d.paths:=by
 induction N with
 | zero=>intro d h;have:=d.size_pos;omega
 | succ N IH =>
  rintro ⟨k,a,p,cs,es⟩ hN
  rw [De.size] at hN
  have H1:BCall Try.prog 81 [.seq 1 (nums p),.clo (.func 83) [] []] (¬ ∀ n∈p,0≤n):=(ConF_I (fun n=>n<0) 83 [] [] p (fun x _=>neg_c x)).bal (by
   constructor
   ·rintro ⟨x,hx,h⟩ q;have:=q x hx;omega
   intro q
   refine Classical.byContradiction fun z=>q fun n hn=>?_
   rcases Int.lt_or_le n 0 with w|w
   ·exact absurd ⟨n,hn,w⟩ z
   exact w)
  have H2:=(EvA_Dc (fun c=>c.d.paths) 85 [] [] cs (fun c hc=>paths2_c c (IH c.d (by
   obtain ⟨i,hi⟩:=List.getElem?_of_mem hc
   have:=Dc.sizes_get hi
   obtain ⟨_,_,_,d⟩:=c
   rw [Dc.size] at this
   show d.size≤N
   omega)))).bal (Dc.pathss_iff cs).symm
  have H3:=(EvA_De De.paths 69 [] [] es (fun d hd=>IH d (by
   obtain ⟨i,hi⟩:=List.getElem?_of_mem hd
   have:=De.sizes_get hi
   omega))).bal (De.pathss_iff es).symm
  rw [De.paths]
  generalize (∀ n∈p,0≤n)=pP at *
  generalize Dc.pathss cs=pC at *
  generalize De.pathss es=pE at *
  refine Zc Try.func69 V (by kernel_rfl) V (Yq V) ?_
  refine Qi ?_
  refine Qbo ?_
  refine Qbj ?_
  refine Zo 15 (¬ (pP∧0≤k∧k≤2)) ?_ _ _ V ?_
  ·skip
   refine Ql ?_
   refine Zb 5 V V V (Zk (xs:=[.tmp 4,.func 83]) V V (H1) by0 ?_);intro c5 h5
   refine Qa ?_
   obtain ⟨rfl,g5⟩|⟨rfl,g5⟩:=Za h5
   ·skip
    refine Qc ?_
    refine Qbm ?_;intro c9 h9
    refine Qh ?_
    obtain ⟨rfl,g9⟩|⟨rfl,g9⟩:=Za h9
    ·skip
     refine Qc ?_
     refine Qbq ?_;intro c14 h14
     refine QH ?_
     refine Yp V ?_ by4 by1
     simp_all;done
    skip
    refine Qbc ?_
    refine Yp V ?_ by4 by1
    simp_all;omega
   skip
   refine Q4 ?_
   refine Qbc ?_
   refine Yp V ?_ by4 by1
   simp_all;done
  intro c15 h15
  refine Qj ?_
  obtain ⟨rfl,g15⟩|⟨rfl,g15⟩:=Za h15
  ·refine Q7 ?_
   have e1:=Classical.not_not.1 g15
   refine Zo 2 (pC∧pE) ?_ _ _ V ?_
   ·skip
    refine Ql ?_
    refine Zb 18 V V V (Zk (xs:=[.tmp 17,.func 85]) V V (H2) by0 ?_);intro c18 h18
    refine Qa ?_
    obtain ⟨rfl,g18⟩|⟨rfl,g18⟩:=Za h18
    ·skip
     refine QM ?_
     refine Yp V ?_ by4 by1
     simp_all;done
    skip
    refine Qc ?_
    refine Zg 22 V V V V V (Zk (xs:=[.tmp 21,.func 69]) V V (H3) by0 ?_);intro c22 h22
    refine Qm ?_
    refine Yp V ?_ by4 by1
    simp_all;done
   intro c2 h2
   refine Qs ?_
   exact Zd V V (Ym _) by1 ⟨⟨_,h2.trans ⟨fun q=>⟨e1,q⟩,fun q=>q.2⟩,V⟩,V⟩
  refine Qq ?_
  exact Zd V V (Ym _) by1 ⟨⟨_,iff_f (fun q=>g15 q.1),V⟩,V⟩
theorem ratom_c (a:Af) (f:Fu) (ps:List Pm) (x:Ato):BCall Try.prog 64 ([.agg (crCells a f ps)]++[.agg x.cells]++[]) (AtP f a.gl x):=by
 obtain ⟨fu,gl,ys,no⟩:=a
 obtain ⟨sl,cp,b⟩:=f
 obtain ⟨k,n⟩:=x
 show BCall _ _ _ (k=1∨(0≤n∧((k=2∧n<sl)∨(k=3∧n<cp)∨(k=4∧n<gl))))
 refine Zc Try.func64 V (by kernel_rfl) V (Yq V) ?_
 refine Qi ?_
 refine QbA ?_
 refine QbU ?_
 refine Q3 ?_
 refine QaS ?_
 refine Qd ?_
 refine QN ?_
 refine QK ?_;intro c9 h9
 refine Qb ?_
 obtain ⟨rfl,g9⟩|⟨rfl,g9⟩:=Za h9
 ·refine QI ?_;intro c11 h11
  refine Qb ?_
  obtain ⟨rfl,g11⟩|⟨rfl,g11⟩:=Za h11
  ·refine QI ?_;intro c16 h16
   refine Qb ?_
   obtain ⟨rfl,g16⟩|⟨rfl,g16⟩:=Za h16
   ·refine QI ?_;intro c21 h21
    refine Qb ?_
    obtain ⟨rfl,g21⟩|⟨rfl,g21⟩:=Za h21
    ·refine QB ?_
     refine QaR ?_
     refine Zo 4 (k=1∨(0≤n∧((k=2∧n<sl)∨(k=3∧n<cp)∨(k=4∧n<gl)))) ?_ _ _ V ?_
     ·skip
      refine Q1 ?_;intro c27 h27
      refine Qa ?_
      obtain ⟨rfl,g27⟩|⟨rfl,g27⟩:=Za h27
      ·skip
       refine Qbf ?_
       refine Yp V ?_ by4 by1
       simp_all;done
      skip
      refine Qc ?_
      refine QaN ?_;intro c32 h32
      refine Qm ?_
      refine Yp V ?_ by4 by1
      simp_all;done
     intro c4 h4
     refine Qs ?_
     exact Zd V V (Ym _) by1 ⟨⟨_,h4,V⟩,V⟩
    refine QaT ?_
    refine QaG ?_
    refine Ql ?_
    refine QaH ?_
    refine QaR ?_
    refine Zo 4 (k=1∨(0≤n∧((k=2∧n<sl)∨(k=3∧n<cp)∨(k=4∧n<gl)))) ?_ _ _ V ?_
    ·skip
     refine Q1 ?_;intro c27 h27
     refine Qa ?_
     obtain ⟨rfl,g27⟩|⟨rfl,g27⟩:=Za h27
     ·skip
      refine Qbf ?_
      refine Yp V ?_ by4 by1
      simp_all;omega
     skip
     refine Qc ?_
     refine QaN ?_;intro c32 h32
     refine Qm ?_
     refine Yp V ?_ by4 by1
     simp_all;done
    intro c4 h4
    refine Qs ?_
    exact Zd V V (Ym _) by1 ⟨⟨_,h4,V⟩,V⟩
   refine QaT ?_
   refine QaG ?_
   refine Ql ?_
   refine QaH ?_
   refine QaR ?_
   refine Zo 4 (k=1∨(0≤n∧((k=2∧n<sl)∨(k=3∧n<cp)∨(k=4∧n<gl)))) ?_ _ _ V ?_
   ·skip
    refine Q1 ?_;intro c27 h27
    refine Qa ?_
    obtain ⟨rfl,g27⟩|⟨rfl,g27⟩:=Za h27
    ·skip
     refine Qbf ?_
     refine Yp V ?_ by4 by1
     simp_all;omega
    skip
    refine Qc ?_
    refine QaN ?_;intro c32 h32
    refine Qm ?_
    refine Yp V ?_ by4 by1
    simp_all;done
   intro c4 h4
   refine Qs ?_
   exact Zd V V (Ym _) by1 ⟨⟨_,h4,V⟩,V⟩
  refine QaT ?_
  refine QaG ?_
  refine Ql ?_
  refine QaH ?_
  refine QaR ?_
  refine Zo 4 (k=1∨(0≤n∧((k=2∧n<sl)∨(k=3∧n<cp)∨(k=4∧n<gl)))) ?_ _ _ V ?_
  ·skip
   refine Q1 ?_;intro c27 h27
   refine Qa ?_
   obtain ⟨rfl,g27⟩|⟨rfl,g27⟩:=Za h27
   ·skip
    refine Qbf ?_
    refine Yp V ?_ by4 by1
    simp_all;omega
   skip
   refine Qc ?_
   refine QaN ?_;intro c32 h32
   refine Qm ?_
   refine Yp V ?_ by4 by1
   simp_all;done
  intro c4 h4
  refine Qs ?_
  exact Zd V V (Ym _) by1 ⟨⟨_,h4,V⟩,V⟩
 refine Qq ?_
 exact Zd V V (Ym _) by1 ⟨⟨_,iff_t (.inl g9),V⟩,V⟩
theorem arm_c (x:St) (n:Int):BCall Try.prog 66 ([]++[.val (.int .i64 n)]++[.cptr x.cells]) (match x with|.mk _ _ _ _ _ _ _ _ arms=>n<arms.length ∧ -1≤n):=by
 obtain ⟨k,t,m,s,ar,fs,cp,⟨dk,da,dp,dc,de⟩,arms⟩:=x
 have hl:=St.cellsss_len arms
 simp only [St.cells,De.cells,List.cons_append,List.nil_append]
 refine Zc Try.func66 V (by kernel_rfl) V (Yq V) ?_
 refine Qi ?_
 refine Qu ?_
 refine Zo 3 (n<arms.length ∧ -1≤n) ?_ _ _ V ?_
 ·skip
  refine Qa ?_
  refine Ql ?_
  refine QbF ?_;intro n7
  refine Qav ?_;intro c8 h8
  refine Qa ?_
  obtain ⟨rfl,g8⟩|⟨rfl,g8⟩:=Za h8
  ·skip
   refine Qat ?_
   refine Yp V ?_ by4 by1
   simp_all;omega
  skip
  refine QE ?_
  refine QbH ?_;intro c11 h11
  refine Qm ?_
  refine Yp V ?_ by4 by1
  simp_all;done
 intro c3 h3
 refine Qs ?_
 exact Zd V V (Ym _) by1 ⟨⟨_,h3,V⟩,V⟩
theorem args_c (a:Af) (f:Fu) (ps:List Pm) (x:St) (m:Nat) (hm:m=(match x with|.mk _ _ _ _ ar _ _ _ _=>ar.length)) (k n:Int) (hk:(k,n)=(match x with|.mk k _ n _ _ _ _ _ _=>(k,n))) (hps:ps.length≤1000):PCall Try.prog 62 [.agg (crCells a f ps),.agg x.cells] (.val (.int .i64 (argN ps k n m))):=by
 obtain ⟨fu,gl,ys,no⟩:=a
 obtain ⟨sl,cp,b⟩:=f
 obtain ⟨k',t,n',s,ar,fs,cp,⟨dk,da,dp,dc,de⟩,arms⟩:=x
 simp only [Prod.mk.injEq] at hm hk
 obtain ⟨rfl,rfl⟩:=hk
 subst hm
 have hla:=Ato.cellss_len ar
 have hlp:=Pm.cellss_len ps
 simp only [St.cells,De.cells,List.cons_append,List.nil_append]
 obtain ⟨⟨ws,wo,wn,⟨wv,wp,⟨wk,wt,wm,wl⟩⟩⟩,hw⟩:∃ p:Pm,1≤n→n≤ps.length→ps[(n - 1).toNat]?=some p:=by
  by_cases q:1≤n∧n≤ps.length
  ·exact ⟨ps[(n - 1).toNat]'by11,fun _ _=>List.getElem?_eq_getElem by11⟩
  exact ⟨⟨⟨#[]⟩,0,0,⟨[],[],⟨0,⟨#[]⟩,0,[]⟩⟩⟩,fun h1 h2=>absurd ⟨h1,h2⟩ q⟩
 unfold argN
 refine Zc Try.func62 V (by kernel_rfl) V (Yq V) ?_
 refine Qi ?_
 refine QbA ?_
 refine QbK ?_
 refine QaS ?_
 refine Qd ?_
 refine QP ?_
 refine QK ?_;intro c8 h8
 refine Qb ?_
 obtain ⟨rfl,g8⟩|⟨rfl,g8⟩:=Za h8
 ·refine QI ?_;intro c9 h9
  refine Qb ?_
  obtain ⟨rfl,g9⟩|⟨rfl,g9⟩:=Za h9
  ·refine QI ?_;intro c10 h10
   refine Qb ?_
   obtain ⟨rfl,g10⟩|⟨rfl,g10⟩:=Za h10
   ·refine QI ?_;intro c11 h11
    refine Qb ?_
    obtain ⟨rfl,g11⟩|⟨rfl,g11⟩:=Za h11
    ·refine Qbd ?_
     refine Qx ?_;intro c12 h12
     refine Qb ?_
     obtain ⟨rfl,g12⟩|⟨rfl,g12⟩:=Za h12
     ·refine Qai ?_
      refine Qo ?_
      refine QK ?_;intro c14 h14
      refine Qb ?_
      obtain ⟨rfl,g14⟩|⟨rfl,g14⟩:=Za h14
      ·refine Qbd ?_
       refine Qx ?_;intro c15 h15
       refine Qb ?_
       obtain ⟨rfl,g15⟩|⟨rfl,g15⟩:=Za h15
       ·refine QI ?_;intro c17 h17
        refine Qb ?_
        obtain ⟨rfl,g17⟩|⟨rfl,g17⟩:=Za h17
        ·refine Qai ?_
         refine Qo ?_
         refine QK ?_;intro c23 h23
         refine Qb ?_
         obtain ⟨rfl,g23⟩|⟨rfl,g23⟩:=Za h23
         ·refine Qbd ?_
          refine Qx ?_;intro c24 h24
          refine Qb ?_
          obtain ⟨rfl,g24⟩|⟨rfl,g24⟩:=Za h24
          ·refine QI ?_;intro c26 h26
           refine Qb ?_
           obtain ⟨rfl,g26⟩|⟨rfl,g26⟩:=Za h26
           ·refine QB ?_
            refine go_blk ?_
            refine Q2 ?_
            refine Qe ?_
            exact Zd V V (Ym _) by1 ⟨by rw [if_neg by11,if_neg by11,if_neg by11,if_neg by11,if_neg by11],V⟩
           refine Qas ?_
           refine Zo 37 (1≤n∧n≤ps.length) ?_ _ _ V ?_
           ·skip
            refine Q1 ?_;intro c29 h29
            refine Qa ?_
            obtain ⟨rfl,g29⟩|⟨rfl,g29⟩:=Za h29
            ·skip
             refine Qa0 ?_
             refine Yp V ?_ by4 by1
             simp_all;omega
            skip
            refine Qc ?_
            refine Qc ?_
            refine Zg 35 V V V V V (Ya V tu_71 V (.seq _ _) (fun n35=>?_))
            refine Qbp ?_;intro c36 h36
            refine QH ?_
            refine Yp V ?_ by4 by1
            simp_all;done
           intro c37 h37
           refine Qj ?_
           obtain ⟨rfl,g37⟩|⟨rfl,g37⟩:=Za h37
           ·refine QB ?_
            refine go_blk ?_
            refine Q2 ?_
            refine Qe ?_
            exact Zd V V (Ym _) by1 ⟨by rw [if_neg by11,if_neg by11,if_neg by11,if_neg by11,if_neg by11],V⟩
           refine Q6 ?_
           refine Ql ?_
           refine Ql ?_
           refine QbZ ?_
           refine Zb 43 V V V (Zj (i:=(n - 1).toNat) V te_71 V (.seq _ _) V by7 (Pm.cellss_get (hw by11 by11)) ?_)
           refine Ql ?_
           refine Qe ?_
           exact Zd V V (Ym _) by1 ⟨by rw [if_neg by11,if_neg by11,if_neg by11,if_neg by11,if_pos ⟨by omega,g37.1,g37.2⟩,hw g37.1 g37.2];rfl,V⟩
          refine Qq ?_
          exact Zd V V (Ym _) by1 ⟨by rw [if_neg by11,if_neg by11,if_neg by11,if_pos by11],V⟩
         refine Qar ?_
         refine Qq ?_
         exact Zd V V (Ym _) by1 ⟨by rw [if_neg by11,if_neg by11,if_neg by11,if_pos by11],V⟩
        refine Q6 ?_
        refine Ql ?_
        refine Qbv ?_;intro n20
        refine Zb 21 V V V (op_max V V V ?_)
        refine Qe ?_
        exact Zd V V (Ym _) by1 ⟨by rw [if_neg by11,if_neg by11,if_pos by11,hla],V⟩
       refine Qq ?_
       exact Zd V V (Ym _) by1 ⟨by rw [if_neg by11,if_pos by11],V⟩
      refine Qar ?_
      refine Qq ?_
      exact Zd V V (Ym _) by1 ⟨by rw [if_neg by11,if_pos by11],V⟩
     refine Qq ?_
     exact Zd V V (Ym _) by1 ⟨by rw [if_pos by11],V⟩
    refine Qar ?_
    refine Qq ?_
    exact Zd V V (Ym _) by1 ⟨by rw [if_pos by11],V⟩
   refine Qar ?_
   refine Qq ?_
   exact Zd V V (Ym _) by1 ⟨by rw [if_pos by11],V⟩
  refine Qar ?_
  refine Qq ?_
  exact Zd V V (Ym _) by1 ⟨by rw [if_pos by11],V⟩
 refine Qar ?_
 refine Qq ?_
 exact Zd V V (Ym _) by1 ⟨by rw [if_pos by11],V⟩
theorem rfix_c (a:Af) (f:Fu) (ps:List Pm) (x:St) (h1:1≤f.sl) (h2:f.sl≤1048576) (t:Int) (fs:List Int) (ca:List (List Ato)) (hx:(t,fs,ca)=(match x with|.mk _ t _ _ _ fs ca _ _=>(t,fs,ca))):BCall Try.prog 80 [.agg (crCells a f ps),.agg x.cells] (FixF a f t fs ca):=by
 have HA:=fun l=>EvA_Ato (AtP f a.gl) 64 [.agg (crCells a f ps)] [] l (fun x _=>ratom_c a f ps x)
 obtain ⟨k,t',n,s,ar,fs',ca',⟨dk,da,dp,dc,de⟩,arms⟩:=x
 simp only [Prod.mk.injEq] at hx
 obtain ⟨rfl,rfl,rfl⟩:=hx
 simp only [St.cells,De.cells,List.cons_append,List.nil_append]
 have hl1:=nums_len fs
 have hl2:=Ato.cellsss_len ca
 unfold FixF CapF
 generalize hAP:AtP f a.gl=AP at *
 obtain ⟨fu,gl,ys,no⟩:=a
 obtain ⟨sl,cp,b⟩:=f
 have hl3:=Fu.cellss_len fu
 simp only [Fu.sl] at h1 h2 ⊢
 simp only [Af.fu]
 refine Zc Try.func80 V (by kernel_rfl) V (Yq V) ?_
 refine QJ ?_
 refine c_lena (t:=1) (j:=5) V V (.seq _ _) (fun hmax=>?_)
 refine Qy ?_
 refine QbA ?_
 refine QbK ?_
 refine Qbj ?_
 refine Zo 36 (¬ (fs≠[]∧ca.length=fs.length∧0≤t∧t≤sl - fs.length)) ?_ _ _ V ?_
 ·skip
  refine Ql ?_
  refine Qa6 ?_;intro n9
  refine Qx ?_;intro c10 h10
  refine Qa ?_
  obtain ⟨rfl,g10⟩|⟨rfl,g10⟩:=Za h10
  ·skip
   refine Qc ?_
   refine Qcd ?_;intro n14
   refine Qc ?_
   refine QbI ?_;intro n17
   refine Qal ?_;intro c18 h18
   refine Qh ?_
   obtain ⟨rfl,g18⟩|⟨rfl,g18⟩:=Za h18
   ·skip
    refine Qc ?_
    refine Qbm ?_;intro c23 h23
    refine Qh ?_
    obtain ⟨rfl,g23⟩|⟨rfl,g23⟩:=Za h23
    ·skip
     refine Qc ?_
     refine Qa4 ?_
     refine Qc ?_
     refine Qc ?_
     refine QbI ?_;intro n33
     refine QbW ?_
     refine Qbq ?_;intro c35 h35
     refine QH ?_
     refine Yp V ?_ by4 by1
     rw [ne_nil_iff];first|(rw [h35];omega)|(simp only [true_iff];omega)
    skip
    refine Qf ?_
    refine Qa0 ?_
    refine Yp V ?_ by4 by1
    rw [ne_nil_iff];first|(rw [h35];omega)|(simp only [true_iff];omega)
   skip
   refine QZ ?_
   refine Qa0 ?_
   refine Yp V ?_ by4 by1
   rw [ne_nil_iff];first|(rw [h35];omega)|(simp only [true_iff];omega)
  skip
  refine Qf ?_
  refine Q4 ?_
  refine QZ ?_
  refine Qa0 ?_
  refine Yp V ?_ by4 by1
  rw [ne_nil_iff];first|(rw [h35];omega)|(simp only [true_iff];omega)
 intro c36 h36
 refine Qj ?_
 obtain ⟨rfl,g36⟩|⟨rfl,g36⟩:=Za h36
 ·refine QaO ?_
  obtain ⟨e1,e2,e3,e4⟩:=Classical.not_not.1 g36
  refine QaV ?_
  refine Qa6 ?_;intro n39
  refine Qv ?_
  apply Zu (rg [(0,2),(4,34),(40,43)]) (σ:=Nat) (fun zz=>match zz with|k=>[(40,.val (.int .i64 (k:Nat)))]) (fun zz=>match zz with|k=>k≤fs.length∧∀ j n l,j<k→fs[j]?=some n→ca[j]?=some l→1≤n∧n<fu.length∧(∀ g,fu[n.toNat]?=some g→(l.length:Int)=g.cp)∧∀ a∈l,AP a) (fun zz=>match zz with|k=>fs.length - k) (0)
  ·repeat' (first|exact Yt|apply Yr rfl|apply Ys rfl)
  ·exact ⟨by omega,by omega⟩
  ·exact by2
  rintro k hI
  try dsimp only [List.cons_append,List.nil_append] at hI ⊢
  obtain ⟨hk,hu⟩:=hI
  refine Qw ?_;intro c41 h41
  refine Qg ?_
  obtain ⟨rfl,g41⟩|⟨rfl,g41⟩:=Za h41
  ·refine Q9 ?_
   exact Zd V V (Ym _) by1 ⟨⟨_,iff_t ⟨e1,e2,e3,e4,fun k' n' l' hn hl=>hu k' n' l' (by have:=(List.getElem?_eq_some_iff.1 hn).1;omega) hn hl⟩,V⟩,V⟩
  refine Qp ?_
  obtain ⟨m,hxm⟩:=Zh (l:=fs) (i:=k) by6
  have hcm:=nums_get hxm
  have hmm:=Yu hxm
  refine Qn ?_
  refine Qcw ?_
  refine QR ?_
  refine Qa3 ?_
  refine Qu ?_
  obtain ⟨l,hxl⟩:=Zh (l:=ca) (i:=k) by11
  have hcl:=Ato.cellsss_get hxl
  have hll:=Ato.cellss_len l
  obtain ⟨⟨wsl,wcp,wb⟩,hw⟩:∃ p:Fu,1≤m→m<fu.length→fu[m.toNat]?=some p:=by
   by_cases q:1≤m∧m<fu.length
   ·exact ⟨fu[m.toNat]'by11,fun _ _=>List.getElem?_eq_getElem by11⟩
   exact ⟨⟨0,0,[]⟩,fun h1 h2=>absurd ⟨h1,h2⟩ q⟩
  refine c_boold 81 (¬ (1≤m∧m<fu.length∧(l.length:Int)=wcp∧∀ a∈l,AP a)) tmix V ?_ _ _ V ?_
  ·skip
   refine QF ?_
   refine DOps.cm 46 V V (fun _ q=>op_lss V V V q) ?_;intro c46 h46
   refine QF ?_
   obtain ⟨rfl,g46⟩|⟨rfl,g46⟩:=Za h46
   ·skip
    refine QbC ?_
    refine QbN ?_
    refine QY ?_
    refine Zz 52 V V V V (Ya V tu_22 V (.seq _ _) (fun _=>⟨V,V⟩)) ?_
    refine Yc 53 V V V V (fun _ q=>op_geq V V V q) ?_;intro c53 h53
    refine Q5 ?_
    obtain ⟨rfl,g53⟩|⟨rfl,g53⟩:=Za h53
    ·skip
     refine QaC ?_
     refine Qc8 ?_
     refine QbO ?_
     refine QcA ?_
     refine QbN ?_
     refine QaC ?_
     refine Zz 66 V V V V (Zj (i:=m.toNat) V te_22 V (.seq _ _) V by7 ((by first|exact hcl|exact Fu.cellss_get (hw by11 by11))) ⟨V,V⟩) ?_
     refine QY ?_
     refine Yc 69 V V V V (fun _ q=>op_neq V V V q) ?_;intro c69 h69
     refine Q5 ?_
     obtain ⟨rfl,g69⟩|⟨rfl,g69⟩:=Za h69
     ·skip
      refine QaC ?_
      refine Qc8 ?_
      refine QbO ?_
      refine QcG ?_
      refine Zz 78 V V V V (Yf (fs:=[.tmp 77]) (cs:=[]) V V V ⟨V,V⟩) ?_
      refine Yc 79 V V V V (fun _ q=>Zk (xs:=[.tmp 76,.tmp 78]) V V (HA l) by0 q) ?_;intro c79 h79
      refine Yc 80 V V V V (fun _ q=>op_notc V V q) ?_;intro c80 h80
      try replace h80:=Yg h80 h79
      refine Qaj ?_
      show BoolQ _ _ _ _ _ _
      refine Yp V ?_ by4 by1
      rw [h80];simp only [not_and];constructor <;> intro q;(intro _ _ _;exact q);exact q by11 by11 by11
     skip
     refine Qbb ?_
     refine Qa1 ?_
     show BoolQ _ _ _ _ _ _
     refine Yp V ?_ by4 by1
     simp only [true_iff];omega
    skip
    refine Qbi ?_
    refine Qay ?_
    refine Q5 ?_
    refine Qbb ?_
    refine Qa1 ?_
    show BoolQ _ _ _ _ _ _
    refine Yp V ?_ by4 by1
    simp only [true_iff];omega
   skip
   refine Qa9 ?_
   refine Qay ?_
   refine Q5 ?_
   refine Qbi ?_
   refine Qay ?_
   refine Q5 ?_
   refine Qbb ?_
   refine Qa1 ?_
   show BoolQ _ _ _ _ _ _
   refine Yp V ?_ by4 by1
   simp only [true_iff];omega
  intro c81 h81
  refine Qj ?_
  obtain ⟨rfl,g81⟩|⟨rfl,g81⟩:=Za h81
  ·refine Qaa ?_
   refine ⟨k+1,⟨by omega,fun j n' l' hj hn hl=>?_⟩,by simp;omega,by2,by1⟩
   rcases Nat.lt_or_ge j k with q|q
   ·exact hu j n' l' q hn hl
   have:j=k:=by omega
   subst this
   rw [hxm] at hn;cases hn
   rw [hxl] at hl;cases hl
   obtain ⟨q1,q2,q3,q4⟩:=Classical.not_not.1 g81
   exact ⟨q1,q2,fun g hg=>by rw [hw q1 q2] at hg;cases hg;exact q3,q4⟩
  refine Qq ?_
  exact Zd V V (Ym _) by1 ⟨⟨_,iff_f (fun q=>g81 (by have q':=q.2.2.2.2 k m l hxm hxl;exact ⟨q'.1,q'.2.1,q'.2.2.1 _ (hw q'.1 q'.2.1),q'.2.2.2⟩)),V⟩,V⟩
 refine Qq ?_
 exact Zd V V (Ym _) by1 ⟨⟨_,iff_f (fun q=>g36 ⟨q.1,q.2.1,q.2.2.1,q.2.2.2.1⟩),V⟩,V⟩
theorem target_c (a:Af) (f:Fu) (ps:List Pm) (x:St) (h1:1≤f.sl) (h2:f.sl≤1048576) (k t:Int) (fs:List Int) (ca:List (List Ato)) (hx:(k,t,fs,ca)=(match x with|.mk k t _ _ _ fs ca _ _=>(k,t,fs,ca))):BCall Try.prog 65 [.agg (crCells a f ps),.agg x.cells] (TgtF a f k t fs ca):=by
 obtain ⟨k',t',n,s,ar,fs',ca',⟨dk,da,dp,dc,de⟩,arms⟩:=x
 simp only [Prod.mk.injEq] at hx
 obtain ⟨rfl,rfl,rfl,rfl⟩:=hx
 have HF:=rfix_c a f ps (.mk k t n s ar fs ca (.mk dk da dp dc de) arms) h1 h2 t fs ca rfl
 unfold TgtF
 generalize FixF a f t fs ca=pF at *
 obtain ⟨fu,gl,ys,no⟩:=a
 obtain ⟨sl,cp,b⟩:=f
 simp only [St.cells,De.cells,List.cons_append,List.nil_append,Af.gl,Fu.sl] at *
 refine Zc Try.func65 V (by kernel_rfl) V (Yq V) ?_
 refine Qi ?_
 refine QbA ?_
 refine QbK ?_
 refine QaS ?_
 refine Qd ?_
 refine QN ?_
 refine QK ?_;intro c8 h8
 refine Qb ?_
 obtain ⟨rfl,g8⟩|⟨rfl,g8⟩:=Za h8
 ·refine Qai ?_
  refine Qo ?_
  refine QK ?_;intro c21 h21
  refine Qb ?_
  obtain ⟨rfl,g21⟩|⟨rfl,g21⟩:=Za h21
  ·refine QI ?_;intro c22 h22
   refine Qb ?_
   obtain ⟨rfl,g22⟩|⟨rfl,g22⟩:=Za h22
   ·refine Qbd ?_
    refine Qx ?_;intro c23 h23
    refine Qb ?_
    obtain ⟨rfl,g23⟩|⟨rfl,g23⟩:=Za h23
    ·refine QI ?_;intro c28 h28
     refine Qb ?_
     obtain ⟨rfl,g28⟩|⟨rfl,g28⟩:=Za h28
     ·refine QB ?_
      refine QaR ?_
      refine Zo 4 (0≤t∧t<sl) ?_ _ _ V ?_
      ·skip
       refine Q1 ?_;intro c34 h34
       refine Qa ?_
       obtain ⟨rfl,g34⟩|⟨rfl,g34⟩:=Za h34
       ·skip
        refine Qf ?_
        refine Qat ?_
        refine Yp V ?_ by4 by1
        simp_all;omega
       skip
       refine Qc ?_
       refine Qa4 ?_
       refine Qc ?_
       refine Qbm ?_;intro c41 h41
       refine Qm ?_
       refine Yp V ?_ by4 by1
       simp_all;done
      intro c4 h4
      refine Qs ?_
      exact Zd V V (Ym _) by1 ⟨⟨_,h4.trans ⟨fun q=>⟨by omega,by omega,by omega,fun _=>q⟩,fun q=>q.2.2.2 by11⟩,V⟩,V⟩
     refine Q6 ?_
     refine Qc9 ?_
     refine QbS ?_
     refine Zb 31 V V V (Zk (xs:=[.tmp 29,.tmp 30]) V V (HF) by0 ?_);intro c31 h31
     refine Qe ?_
     exact Zd V V (Ym _) by1 ⟨⟨_,h31.trans ⟨fun q=>⟨by omega,by omega,fun _=>q,by omega⟩,fun q=>q.2.2.1 by11⟩,V⟩,V⟩
    refine Q6 ?_
    refine Ql ?_
    refine Qx ?_;intro c26 h26
    refine Qe ?_
    exact Zd V V (Ym _) by1 ⟨⟨_,h26.trans ⟨fun q=>⟨by omega,fun _=>q,by omega,by omega⟩,fun q=>q.2.1 by11⟩,V⟩,V⟩
   refine Qar ?_
   refine Q6 ?_
   refine Ql ?_
   refine Qx ?_;intro c26 h26
   refine Qe ?_
   exact Zd V V (Ym _) by1 ⟨⟨_,h26.trans ⟨fun q=>⟨by omega,fun _=>q,by omega,by omega⟩,fun q=>q.2.1 by11⟩,V⟩,V⟩
  refine Qar ?_
  refine Q6 ?_
  refine Ql ?_
  refine Qx ?_;intro c26 h26
  refine Qe ?_
  exact Zd V V (Ym _) by1 ⟨⟨_,h26.trans ⟨fun q=>⟨by omega,fun _=>q,by omega,by omega⟩,fun q=>q.2.1 by11⟩,V⟩,V⟩
 refine Qas ?_
 refine Zo 4 (0≤t∧t<gl) ?_ _ _ V ?_
 ·skip
  refine Q1 ?_;intro c11 h11
  refine Qa ?_
  obtain ⟨rfl,g11⟩|⟨rfl,g11⟩:=Za h11
  ·skip
   refine Qf ?_
   refine Qat ?_
   refine Yp V ?_ by4 by1
   simp_all;omega
  skip
  refine Qc ?_
  refine Qa4 ?_
  refine Qc ?_
  refine Qbm ?_;intro c18 h18
  refine Qm ?_
  refine Yp V ?_ by4 by1
  simp_all;done
 intro c4 h4
 refine Qs ?_
 exact Zd V V (Ym _) by1 ⟨⟨_,h4.trans ⟨fun q=>⟨fun _=>q,by omega,by omega,by omega⟩,fun q=>q.1 by11⟩,V⟩,V⟩
def ListC (a:Af) (f:Fu) (ps:List Pm) (l:List St):Prop:=BCall Try.prog 22 ([.agg (crCells a f ps)]++[.seq 13 (St.cellss l)]++[]) (St.rights ps a f l)
theorem rstmt_c (a:Af) (f:Fu) (ps:List Pm) (h1:1≤f.sl) (h2:f.sl≤1048576) (hps:ps.length≤1000) (x:St) (IH:∀ l,St.sizes l<x.size→ListC a f ps l) (hb:x.size≤100000000) :
    BCall Try.prog 38 ([.agg (crCells a f ps)]++[.agg x.cells]++[]) (x.right ps a f):=by
 obtain ⟨k,t,n,s,ar,fs,ca,d,arms⟩:=x
 rw [St.size] at IH hb
 have HR:=args_c a f ps (.mk k t n s ar fs ca d arms) ar.length rfl k n rfl hps
 have HA:=EvA_Ato (AtP f a.gl) 64 [.agg (crCells a f ps)] [] ar (fun x _=>ratom_c a f ps x)
 have HT:=target_c a f ps (.mk k t n s ar fs ca d arms) h1 h2 k t fs ca rfl
 have HL:=EvA_I (fun n=>n<arms.length ∧ -1≤n) 66 [] [.cptr (St.mk k t n s ar fs ca d arms).cells] d.leaves (fun y _=>arm_c (.mk k t n s ar fs ca d arms) y)
 have HV:=Leaves_c d.size d (Nat.le_refl _) by11
 have HP:=paths_c d.size d (Nat.le_refl _)
 have HS:=(EvA_Ls (St.rights ps a f) 22 [.agg (crCells a f ps)] [] arms (fun l hl=>IH l (by
  obtain ⟨i,hi⟩:=List.getElem?_of_mem hl
  have:=St.sizess_get hi
  omega))).bal (St.rightss_iff ps a f arms).symm
 clear IH
 rw [St.right]
 have hla:=Ato.cellss_len ar
 generalize argN ps k n ar.length=an at *
 generalize (∀ x∈ar,AtP f a.gl x)=pA at *
 generalize TgtF a f k t fs ca=pT at *
 generalize (∀ x∈d.leaves,x<(arms.length:Int) ∧ -1≤x)=pL at *
 generalize d.leaves=dl at *
 generalize d.paths=pP at *
 generalize St.rightss ps a f arms=pS at *
 obtain ⟨dk,da,dp,dc,de⟩:=d
 obtain ⟨fu,gl,ys,no⟩:=a
 obtain ⟨sl,cp,b⟩:=f
 simp only [St.cells,De.cells,List.cons_append,List.nil_append] at *
 refine Zc Try.func38 V (by kernel_rfl) V (Yq V) ?_
 refine Qi ?_
 refine QbA ?_
 refine QbK ?_
 refine Qbj ?_
 refine c_boold 26 (¬ (an=ar.length∧pA∧pT)) tmix V ?_ _ _ V ?_
 ·skip
  refine Zy 6 V V (Zp (cs':=[_,_,_,_,_,_,_,_]) V ta_75 V V V ⟨V,V⟩) ?_
  refine Zy 7 V V (Zp (cs':=[_,_,_,_,_,_,_,_,_,_,_,_,_]) V ta_51 V V V ⟨V,V⟩) ?_
  refine Zy 8 V V (Zl (xs:=[.tmp 6,.tmp 7]) V V (HR) by0 ⟨V,V⟩) ?_
  refine QaU ?_
  refine Zy 11 V V (Ya V tu_42 V (.seq _ _) (fun _=>⟨V,V⟩)) ?_
  refine DOps.cm 12 V V (fun _ q=>op_neq V V V q) ?_;intro c12 h12
  refine QF ?_
  obtain ⟨rfl,g12⟩|⟨rfl,g12⟩:=Za h12
  ·skip
   refine QY ?_
   refine QcG ?_
   refine Zz 17 V V V V (Yf (fs:=[.tmp 16]) (cs:=[]) V V V ⟨V,V⟩) ?_
   refine Yc 18 V V V V (fun _ q=>Zk (xs:=[.tmp 15,.tmp 17]) V V (HA) by0 q) ?_;intro c18 h18
   refine Yc 19 V V V V (fun _ q=>op_notc V V q) ?_;intro c19 h19
   try replace h19:=Yg h19 h18
   refine Q5 ?_
   obtain ⟨rfl,g19⟩|⟨rfl,g19⟩:=Za h19
   ·skip
    refine QcG ?_
    refine Zz 23 V V V V (Zp (cs':=[_,_,_,_,_,_,_,_,_,_,_,_,_]) V ta_51 V V V ⟨V,V⟩) ?_
    refine Yc 24 V V V V (fun _ q=>Zk (xs:=[.tmp 22,.tmp 23]) V V (HT) by0 q) ?_;intro c24 h24
    refine Yc 25 V V V V (fun _ q=>op_notc V V q) ?_;intro c25 h25
    try replace h25:=Yg h25 h24
    refine Qaj ?_
    show BoolQ _ _ _ _ _ _
    refine Yp V ?_ by4 by1
    rw [hla] at *;grind
   skip
   refine Qa9 ?_
   refine Qaj ?_
   show BoolQ _ _ _ _ _ _
   refine Yp V ?_ by4 by1
   rw [hla] at *;grind
  skip
  refine Qa9 ?_
  refine Qay ?_
  refine Q5 ?_
  refine Qa9 ?_
  refine Qaj ?_
  show BoolQ _ _ _ _ _ _
  refine Yp V ?_ by4 by1
  rw [hla] at *;grind
 intro c26 h26
 refine Qj ?_
 obtain ⟨rfl,g26⟩|⟨rfl,g26⟩:=Za h26
 ·refine QaO ?_
  have e1:=Classical.not_not.1 g26
  refine QaV ?_
  refine Qd ?_
  refine QN ?_
  refine QK ?_;intro c30 h30
  refine Qb ?_
  obtain ⟨rfl,g30⟩|⟨rfl,g30⟩:=Za h30
  ·refine QI ?_;intro c40 h40
   refine Qb ?_
   obtain ⟨rfl,g40⟩|⟨rfl,g40⟩:=Za h40
   ·refine QI ?_;intro c50 h50
    refine Qb ?_
    obtain ⟨rfl,g50⟩|⟨rfl,g50⟩:=Za h50
    ·refine QB ?_
     refine go_blk ?_
     refine Q2 ?_
     refine Qe ?_
     exact Zd V V (Ym _) by1 ⟨⟨_,iff_t ⟨e1,by omega,by omega,by omega⟩,V⟩,V⟩
    refine Q6 ?_
    refine Qcr ?_
    refine Qu ?_
    refine Zo 4 (pL∧pP∧pS) ?_ _ _ V ?_
    ·skip
     refine QaG ?_
     refine QbG ?_
     refine Zb 54 V V V (Zl (xs:=[.tmp 53]) V V (HV) by0 ?_)
     refine Qa ?_
     refine Zb 56 V V V (Zk (xs:=[.tmp 54,.tmp 55]) V V (HL) by0 ?_);intro c56 h56
     refine Qa ?_
     obtain ⟨rfl,g56⟩|⟨rfl,g56⟩:=Za h56
     ·skip
      refine QZ ?_
      refine Qae ?_
      refine Qm ?_
      refine Yp V ?_ by4 by1
      simp_all;done
     skip
     refine Qa4 ?_
     refine Zg 59 V V V V V (Zp (cs':=[_,_,_,_,_]) V ta_48 V V V (Zg 60 V V V V V (Zk (xs:=[.tmp 59]) V V (HP) by0 ?_)));intro c60 h60
     refine Qh ?_
     obtain ⟨rfl,g60⟩|⟨rfl,g60⟩:=Za h60
     ·skip
      refine Qf ?_
      refine Qae ?_
      refine Qm ?_
      refine Yp V ?_ by4 by1
      simp_all;done
     skip
     refine Qc ?_
     refine Zg 65 V V V V V (Zp (cs':=[_,_,_,_,_,_,_,_]) V ta_75 V V V (Zg 66 V V V V V (Yf (fs:=[.tmp 65]) (cs:=[]) V V V (Zg 67 V V V V V (Zk (xs:=[.tmp 64,.tmp 66]) V V (HS) by0 ?_)))));intro c67 h67
     refine Qm ?_
     refine Yp V ?_ by4 by1
     simp_all;done
    intro c4 h4
    refine Qs ?_
    exact Zd V V (Ym _) by1 ⟨⟨_,h4.trans ⟨fun q=>⟨e1,by omega,by omega,fun _=>q⟩,fun q=>q.2.2.2 by11⟩,V⟩,V⟩
   refine Qas ?_
   refine Zo 4 (0≤n∧n≤1048576) ?_ _ _ V ?_
   ·skip
    refine Q1 ?_;intro c43 h43
    refine Qa ?_
    obtain ⟨rfl,g43⟩|⟨rfl,g43⟩:=Za h43
    ·skip
     refine QM ?_
     refine Yp V ?_ by4 by1
     simp_all;omega
    skip
    refine Qc ?_
    refine Qbp ?_;intro c47 h47
    refine Qm ?_
    refine Yp V ?_ by4 by1
    simp_all;done
   intro c4 h4
   refine Qs ?_
   exact Zd V V (Ym _) by1 ⟨⟨_,h4.trans ⟨fun q=>⟨e1,by omega,fun _=>q,by omega⟩,fun q=>q.2.2.1 by11⟩,V⟩,V⟩
  refine Qas ?_
  refine Zo 4 (0≤n∧n≤65535) ?_ _ _ V ?_
  ·skip
   refine Q1 ?_;intro c33 h33
   refine Qa ?_
   obtain ⟨rfl,g33⟩|⟨rfl,g33⟩:=Za h33
   ·skip
    refine QM ?_
    refine Yp V ?_ by4 by1
    simp_all;omega
   skip
   refine Qc ?_
   refine Qbp ?_;intro c37 h37
   refine Qm ?_
   refine Yp V ?_ by4 by1
   simp_all;done
  intro c4 h4
  refine Qs ?_
  exact Zd V V (Ym _) by1 ⟨⟨_,h4.trans ⟨fun q=>⟨e1,fun _=>q,by omega,by omega⟩,fun q=>q.2.1 by11⟩,V⟩,V⟩
 refine Qq ?_
 exact Zd V V (Ym _) by1 ⟨⟨_,iff_f (fun q=>g26 q.1),V⟩,V⟩
theorem rlist_c (a:Af) (f:Fu) (ps:List Pm) (h1:1≤f.sl) (h2:f.sl≤1048576) (hps:ps.length≤1000) (N:Nat):∀ l,St.sizes l≤N→St.sizes l≤100000000→ListC a f ps l:=by
 induction N using Nat.strongRecOn with
 | ind N IH =>
  intro l hN hb
  have HS:=(EvA_St (St.right ps a f) 38 [.agg (crCells a f ps)] [] l (fun x hx=>by
   obtain ⟨i,hi⟩:=List.getElem?_of_mem hx
   have hs:=St.sizes_get hi
   exact rstmt_c a f ps h1 h2 hps x (fun m hm=>IH (St.sizes m) by11 m (Nat.le_refl _) by11) by11)).bal (St.rights_iff ps a f l).symm
  clear IH
  unfold ListC
  generalize St.rights ps a f l=pS at *
  obtain ⟨fu,gl,ys,no⟩:=a
  obtain ⟨sl,cp,b⟩:=f
  refine Zc Try.func22 V (by kernel_rfl) V (Yq V) ?_
  refine Qi ?_
  refine QbA ?_
  refine Qb ?_
  refine Qr ?_
  refine Qc9 ?_
  refine Zb 7 V V V (Yf (fs:=[.tmp 6]) (cs:=[]) V V V (Zb 8 V V V (Zk (xs:=[.tmp 5,.tmp 7]) V V (HS) by0 ?_)));intro c8 h8
  refine Qe ?_
  exact Zd V V (Ym _) by1 ⟨⟨_,h8,V⟩,V⟩
end Go.Proofs.Ytbfogofpgcndfaa
namespace Go.Proofs.Ytbfogofpgcndfaa
open Go.RowKit
def endP (i:Is):Prop:=i.op=6∨i.op=7∨i.op=14∨i.op=15
def FunsP (c:Cd):Nat→List Cf→Prop
 | at0,[]=>at0=c.is.length
 | at0,f::fs=>((1≤f.len∧f.len≤c.is.length - at0∧1≤f.sl∧f.sl≤1048576∧0≤f.cp∧f.cp≤1048576)∧(∀ i∈(c.is.take (at0+f.len.toNat)).drop at0,RefP c f at0 i)∧(∀ i,c.is[at0+f.len.toNat - 1]?=some i→endP i))∧FunsP c (at0+f.len.toNat) fs
def HeadP (c:Cd):Prop:=0<c.fu.length∧c.fu.length≤1048576∧c.tx.length≤1048576∧c.is.length≤1048576∧(0≤c.gl∧c.gl≤1048576)∧(0≤c.ys∧c.ys≤1048576)∧(0≤c.no∧c.no≤1048576)∧(∀ f,c.fu[0]?=some f→f.cp=0)
def RightP (c:Cd):Prop:=HeadP c∧(∀ s∈c.tx,s.size≤1048576)∧FunsP c 0 c.fu
theorem Is.cellss_cut (l:List Is) (a b:Nat):((Is.cellss l).take b).drop a=Is.cellss ((l.take b).drop a):=by simp [Is.cellss,List.map_take,List.map_drop]
theorem Right_c (c:Cd) (hc:c.Lim):BCall Try.prog 15 [.agg c.cells] (RightP c):=by
 have HS:=Ev_S (fun s=>s.size≤1048576) 28 [] [] c.tx (fun x _=>short_c x)
 have HI:=fun (f:Cf) (a b:Nat) (to:Int) (hto:to=a+f.len) (h1:1≤f.sl) (h2:f.sl≤1048576)=>Ev_Is (RefP c f a) 30 [.agg (ckCells c f a to prims)] [] ((c.is.take b).drop a) (fun x hx=>by
  have hx':x∈c.is:=List.mem_of_mem_take (List.mem_of_mem_drop hx)
  have hl:x.Lim:=by
   obtain ⟨is,fu,tx,gl,ys,no⟩:=c
   exact hc.1.2 x hx'
  have:=ins_c c f a to prims x h1 h2 hl (by rw [prims_len];omega)
  subst hto
  exact this.bal (InsP_iff c f a x))
 have hgf:∀ f,c.is.length=c.is.length∧(f∈c.fu→f.Lim):=fun f=>by
  obtain ⟨is,fu,tx,gl,ys,no⟩:=c
  exact ⟨V,hc.2.1.2 f⟩
 have hR:∀ at0 f fs,FunsP c at0 (f::fs)=(((1≤f.len∧f.len≤c.is.length - at0∧1≤f.sl∧f.sl≤1048576∧0≤f.cp∧f.cp≤1048576)∧(∀ i∈(c.is.take (at0+f.len.toNat)).drop at0,RefP c f at0 i)∧(∀ i,c.is[at0+f.len.toNat - 1]?=some i→endP i))∧FunsP c (at0+f.len.toNat) fs):=fun _ _ _=>rfl
 have hN:∀ at0,FunsP c at0 []=(at0=c.is.length):=fun _=>rfl
 unfold RightP HeadP
 generalize RefP c=RP at *
 generalize FunsP c=FP at *
 obtain ⟨is,fu,tx,gl,ys,no⟩:=c
 simp only [Cd.is,Cd.fu,Cd.tx,Cd.gl,Cd.ys,Cd.no] at *
 have hl1:=Is.cellss_len is
 have hl2:=Cf.cellss_len fu
 have hl3:=strs_len tx
 generalize hSS:(∀ s∈tx,s.size≤1048576)=pS at *
 obtain ⟨⟨wl,wsl,wcp⟩,hw⟩:∃ p:Cf,0<fu.length→fu[0]?=some p:=by
  by_cases q:0<fu.length
  ·exact ⟨fu[0],fun _=>List.getElem?_eq_getElem q⟩
  exact ⟨⟨0,0,0⟩,fun h=>absurd h q⟩
 have hw0:0<fu.length→((∀ f,fu[0]?=some f→f.cp=0)↔wcp=0):=fun q=>by
  rw [hw q]
  exact ⟨fun z=>z _ V,fun z f e=>by cases e;exact z⟩
 generalize (∀ f,fu[0]?=some f→f.cp=0)=pC at *
 refine Zc Try.func15 V (by kernel_rfl) V (Yq V) ?_
 refine QJ ?_
 refine c_lena (t:=0) (j:=0) V V (.seq _ _) (fun hmax=>?_)
 refine c_lena (t:=0) (j:=1) V V (.seq _ _) (fun hmax2=>?_)
 refine c_lena (t:=0) (j:=2) V V (.seq _ _) (fun hmax3=>?_)
 refine Qy ?_
 refine QcH ?_
 refine Qbj ?_
 refine Zo 55 (¬ (0<fu.length∧fu.length≤1048576∧tx.length≤1048576∧is.length≤1048576∧(0≤gl∧gl≤1048576)∧(0≤ys∧ys≤1048576)∧(0≤no∧no≤1048576)∧pC)) ?_ _ _ V ?_
 ·skip
  refine Ql ?_
  refine QcI ?_;intro n10
  refine Qx ?_;intro c11 h11
  refine Qa ?_
  obtain ⟨rfl,g11⟩|⟨rfl,g11⟩:=Za h11
  ·skip
   refine Qc ?_
   refine QbL ?_;intro n15
   refine Qbq ?_;intro c16 h16
   refine Qh ?_
   obtain ⟨rfl,g16⟩|⟨rfl,g16⟩:=Za h16
   ·skip
    refine Qc ?_
    refine Qb0 ?_;intro n21
    refine Qbq ?_;intro c22 h22
    refine Qh ?_
    obtain ⟨rfl,g22⟩|⟨rfl,g22⟩:=Za h22
    ·skip
     refine Qc ?_
     refine Qb1 ?_;intro n27
     refine Qbq ?_;intro c28 h28
     refine Qh ?_
     obtain ⟨rfl,g28⟩|⟨rfl,g28⟩:=Za h28
     ·skip
      refine Qc ?_
      refine Zg 33 rfl rfl rfl rfl rfl (Zk (xs:=[.tmp 32,.const (.int .i64 1048577)]) rfl rfl (within_c gl 1048577) by0 ?_);intro c33 h33
      refine QU ?_;intro c34 h34
      try replace h34:=Yg h34 h33
      refine Qh ?_
      obtain ⟨rfl,g34⟩|⟨rfl,g34⟩:=Za h34
      ·skip
       refine Qc ?_
       refine Zg 39 rfl rfl rfl rfl rfl (Zk (xs:=[.tmp 38,.const (.int .i64 1048577)]) rfl rfl (within_c ys 1048577) by0 ?_);intro c39 h39
       refine QU ?_;intro c40 h40
       try replace h40:=Yg h40 h39
       refine Qh ?_
       obtain ⟨rfl,g40⟩|⟨rfl,g40⟩:=Za h40
       ·skip
        refine Qc ?_
        refine Zg 45 rfl rfl rfl rfl rfl (Zk (xs:=[.tmp 44,.const (.int .i64 1048577)]) rfl rfl (within_c no 1048577) by0 ?_);intro c45 h45
        refine QU ?_;intro c46 h46
        try replace h46:=Yg h46 h45
        refine Qh ?_
        obtain ⟨rfl,g46⟩|⟨rfl,g46⟩:=Za h46
        ·skip
         refine Qc ?_
         refine Zg 51 V V V V V (Zj V te_31 V (.seq _ _) V V (Cf.cellss_get (hw by11)) ?_)
         refine Qbh ?_;intro c54 h54
         refine QH ?_
         refine Yp V ?_ by4 by1
         rw [h54,hw0 by11];omega
        skip
        refine Qa0 ?_
        refine Yp V ?_ by4 by1
        simp only [true_iff];omega
       skip
       refine Qf ?_
       refine QX ?_
       refine Qaq ?_
       refine Yp V ?_ by4 by1
       simp only [true_iff];omega
      skip
      refine Qf ?_
      refine QaD ?_
      refine Qaq ?_
      refine Yp V ?_ by4 by1
      simp only [true_iff];omega
     skip
     refine Qf ?_
     refine QaD ?_
     refine QX ?_
     refine Qaq ?_
     refine Yp V ?_ by4 by1
     simp only [true_iff];omega
    skip
    refine Qf ?_
    refine QaD ?_
    refine QaD ?_
    refine Qaq ?_
    refine Yp V ?_ by4 by1
    simp only [true_iff];omega
   skip
   refine Qf ?_
   refine QaD ?_
   refine QaD ?_
   refine QX ?_
   refine Qaq ?_
   refine Yp V ?_ by4 by1
   simp only [true_iff];omega
  skip
  refine Qf ?_
  refine QaD ?_
  refine QaD ?_
  refine QaD ?_
  refine Qaq ?_
  refine Yp V ?_ by4 by1
  simp only [true_iff];omega
 intro c55 h55
 refine Qj ?_
 obtain ⟨rfl,g55⟩|⟨rfl,g55⟩:=Za h55
 ·refine QaO ?_
  have e1:=Classical.not_not.1 g55
  refine QaV ?_
  refine Zb 58 V V V (Zk (xs:=[.tmp 57,.func 28]) V V (HS) by0 ?_);intro c58 h58
  refine QG ?_;intro c59 h59
  try replace h59:=Yg h59 h58
  refine Qd ?_
  obtain ⟨rfl,g59⟩|⟨rfl,g59⟩:=Za h59
  ·refine Q7 ?_
   have e2:=Classical.not_not.1 g59
   refine Qk ?_
   refine Zb 60 V V V (Zl (xs:=[]) V V (Prims_c) by0 ?_)
   refine Q3 ?_
   refine QaS ?_
   refine QcI ?_;intro n63
   refine Qv ?_
   apply Zu (rg [(0,1),(2,1),(4,58),(64,72)]) (σ:=Nat × Nat) (fun zz=>match zz with|(k,at0)=>[(64,.val (.int .i64 k)),(4,.val (.int .i64 at0))]) (fun zz=>match zz with|(k,at0)=>k≤fu.length∧at0≤is.length∧(FP at0 (fu.drop k)↔FP 0 fu)) (fun zz=>match zz with|(k,at0)=>fu.length - k) ((0,0))
   ·repeat' (first|exact Yt|apply Yr rfl|apply Ys rfl)
   ·exact ⟨by omega,by omega,Iff.rfl⟩
   ·exact by2
   rintro ⟨k,at0⟩ hI
   try dsimp only [List.cons_append,List.nil_append] at hI ⊢
   obtain ⟨hk,hat,hu⟩:=hI
   refine Qw ?_;intro c65 h65
   refine Qg ?_
   obtain ⟨rfl,g65⟩|⟨rfl,g65⟩:=Za h65
   ·refine Qac ?_
    rw [List.drop_eq_nil_of_le by11,hN] at hu
    refine Qn ?_
    refine Ql ?_
    refine Qbw ?_;intro n139
    refine Qx ?_;intro c140 h140
    refine Qe ?_
    exact Zd V V (Ym _) by1 ⟨⟨_,h140.trans (by rw [hl1];exact ⟨fun q=>⟨e1,e2,hu.1 by11⟩,fun q=>by have:=hu.2 q.2.2;omega⟩),V⟩,V⟩
   refine Qp ?_
   obtain ⟨⟨flen,fsl,fcp⟩,hxf⟩:=Zh (l:=fu) (i:=k) by6
   have hcf:=Cf.cellss_get hxf
   have hmf:=Yu hxf
   rw [Ye hxf,hR] at hu
   have hLf:=(hgf _).2 hmf
   obtain ⟨⟨hz1,hz2⟩,_,_⟩:=hLf
   simp only [Cf.len,Cf.sl,Cf.cp] at hu
   refine Qk ?_
   refine Zb 66 V V V (Zj V te_31 V (.seq _ _) V V by9 ?_)
   refine Zb 67 V V V (Zp (cs':=[_,_,_]) V ta_55 V V V (Zb 6 V V V (Zv (cs':=[_,_,_]) V tz_55 V V ?_)));intro b6
   refine Zq V V (Zm (cs':=[_,_,_]) (i:=0) V ts_55 V V V V V (Yq V) V ?_)
   refine Qg ?_
   refine Qo ?_
   refine Zo 96 (¬ (1≤flen∧flen≤is.length - at0∧1≤fsl∧fsl≤1048576∧0≤fcp∧fcp≤1048576)) ?_ _ _ V ?_
   ·skip
    refine Qt ?_
    refine Qav ?_;intro c70 h70
    refine Qa ?_
    obtain ⟨rfl,g70⟩|⟨rfl,g70⟩:=Za h70
    ·skip
     refine QL ?_
     refine Qc ?_
     refine Qb1 ?_;intro n76
     refine QE ?_
     refine QbW ?_
     refine Qbq ?_;intro c79 h79
     refine Qh ?_
     obtain ⟨rfl,g79⟩|⟨rfl,g79⟩:=Za h79
     ·skip
      refine QL ?_
      refine Qbm ?_;intro c84 h84
      refine Qh ?_
      obtain ⟨rfl,g84⟩|⟨rfl,g84⟩:=Za h84
      ·skip
       refine QL ?_
       refine Qbq ?_;intro c89 h89
       refine Qh ?_
       obtain ⟨rfl,g89⟩|⟨rfl,g89⟩:=Za h89
       ·skip
        refine QL ?_
        refine Zg 94 rfl rfl rfl rfl rfl (Zk (xs:=[.tmp 93,.const (.int .i64 1048577)]) rfl rfl (within_c fcp 1048577) by0 ?_);intro c94 h94
        refine QU ?_;intro c95 h95
        try replace h95:=Yg h95 h94
        refine QH ?_
        refine Yp V ?_ by4 by1
        rw [h95];omega
       skip
       refine Qf ?_
       refine QH ?_
       refine Yp V ?_ by4 by1
       simp only [true_iff];omega
      skip
      refine QZ ?_
      refine QH ?_
      refine Yp V ?_ by4 by1
      simp only [true_iff];omega
     skip
     refine Q4 ?_
     refine QZ ?_
     refine QH ?_
     refine Yp V ?_ by4 by1
     simp only [true_iff];omega
    skip
    refine Qf ?_
    refine Qf ?_
    refine Qh ?_
    refine Q4 ?_
    refine QZ ?_
    refine QH ?_
    refine Yp V ?_ by4 by1
    simp only [true_iff];omega
   intro c96 h96
   refine Qj ?_
   obtain ⟨rfl,g96⟩|⟨rfl,g96⟩:=Za h96
   ·refine Q7 ?_
    have e3:=Classical.not_not.1 g96
    have HE:=HI ⟨flen,fsl,fcp⟩ at0 (at0+flen.toNat) (at0+flen) rfl (by simp only [Cf.sl];omega) (by simp only [Cf.sl];omega)
    rw [← Is.cellss_cut] at HE
    obtain ⟨⟨lop,la,lb,ln,lar,lfs,lcp⟩,hl⟩:=Zh (l:=is) (i:=at0+flen.toNat - 1) by11
    have hcl:=Is.cellss_get hl
    have HD:=ends_c ⟨lop,la,lb,ln,lar,lfs,lcp⟩
    have hle:(∀ i,is[at0+flen.toNat - 1]?=some i→endP i)↔endP ⟨lop,la,lb,ln,lar,lfs,lcp⟩:=by
     rw [hl];exact ⟨fun z=>z _ rfl,fun z i e=>by cases e;exact z⟩
    rw [hle] at hu
    change BCall _ _ _ (endP ⟨lop,la,lb,ln,lar,lfs,lcp⟩) at HD
    generalize endP ⟨lop,la,lb,ln,lar,lfs,lcp⟩=eP at *
    generalize (∀ i∈(is.take (at0+flen.toNat)).drop at0,RP ⟨flen,fsl,fcp⟩ at0 i)=iP at *
    refine Qk ?_
    refine Zb 97 V V V (Zp (cs':=[_,_,_,_,_,_]) V ta_34 V V V (Zb 98 V V V (Zs (cs':=[_,_,_]) (i:=0) V ta_55 V V V V ?_)))
    refine Qa ?_
    refine Qa ?_
    refine Qt ?_
    refine QS ?_
    refine Qa ?_
    refine Zb 105 V V V (Zn (ns:=[0,1,2,3,4]) (xs:=[.tmp 97,.tmp 98,.tmp 99,.tmp 103,.tmp 104]) V tz_85 V tfl_85 V V V V (Zb 7 V V V (Zv (cs':=[_,_,_,_,_,_,_,_,_,_,_,_]) V tz_85 V V ?_)));intro b7
    refine Zq V V (Zm (cs':=[_,_,_,_,_,_,_,_,_,_,_,_]) (i:=0) V ts_85 V V V V V (Yq V) V ?_)
    refine Qg ?_
    refine Qo ?_
    refine c_boold 130 (¬ (iP∧eP)) tmix V ?_ _ _ V ?_
    ·skip
     refine QaU ?_
     refine QF ?_
     refine QF ?_
     refine Qbt ?_
     refine QcJ ?_
     refine Qb2 ?_
     refine Zy 113 V V (op_cut (l:=at0) (k:=at0+flen.toNat) V te_30 V (.seq _ _) V V by11 by11 by11 by11 ⟨V,V⟩) ?_
     refine Zy 114 V V (Zs (cs':=[_,_,_,_,_,_,_,_,_,_,_,_]) (i:=0) V ta_85 V V V V ⟨V,V⟩) ?_
     refine Zy 115 V V (Yf (fs:=[.tmp 114]) (cs:=[]) V V V ⟨V,V⟩) ?_
     refine DOps.cm 116 V V (fun _ q=>Zk (xs:=[.tmp 113,.tmp 115]) V V (HE) by0 q) ?_;intro c116 h116
     refine DOps.cm 117 V V (fun _ q=>op_notc V V q) ?_;intro c117 h117
     try replace h117:=Yg h117 h116
     refine QF ?_
     obtain ⟨rfl,g117⟩|⟨rfl,g117⟩:=Za h117
     ·skip
      refine QaC ?_
      refine Zz 122 V V V V (op_fieldAddr_m V tf_55_0 V ⟨V,V⟩) ?_
      refine Zz 123 V V V V (op_load_m1 (i:=1) V ta_3 V V V ⟨V,V⟩) ?_
      refine Zz 124 V V V V (op_add V V V (IntWalk.i64_in _ by11) ⟨V,V⟩) ?_
      refine Qc1 ?_
      refine Zz 126 V V V V (Zj (i:=at0+flen.toNat - 1) V te_30 V (.seq _ _) V by7 (hcl) ⟨V,V⟩) ?_
      refine Zz 127 V V V V (Zp (cs':=[_,_,_,_,_,_,_]) V Zi V V V ⟨V,V⟩) ?_
      refine Yc 128 V V V V (fun _ q=>Zk (xs:=[.tmp 127]) V V (HD) by0 q) ?_;intro c128 h128
      refine Yc 129 V V V V (fun _ q=>op_notc V V q) ?_;intro c129 h129
      try replace h129:=Yg h129 h128
      refine Qaj ?_
      show BoolQ _ _ _ _ _ _
      refine Yp V ?_ by4 by1
      simp_all;done
     skip
     refine Qbb ?_
     refine Qay ?_
     refine Qa1 ?_
     show BoolQ _ _ _ _ _ _
     refine Yp V ?_ by4 by1
     simp_all;done
    intro c130 h130
    refine Qj ?_
    obtain ⟨rfl,g130⟩|⟨rfl,g130⟩:=Za h130
    ·refine QB ?_
     refine Qj ?_
     refine Qn ?_
     refine QC ?_
     refine Qa7 ?_
     refine Qau ?_
     refine QT ?_
     exact ⟨(k+1,at0+flen.toNat),⟨by show k+1≤_;omega,by show at0+flen.toNat≤_;omega,⟨fun q=>hu.1 ⟨⟨e3,Classical.not_not.1 g130⟩,q⟩,fun q=>(hu.2 q).2⟩⟩,by simp;omega,(SLe.cons V (Ym _) (SLe.cons V (Le.ieq by11) by2)),by1⟩
    refine Qq ?_
    exact Zd V V (Ym _) by1 ⟨⟨_,iff_f (fun q=>g130 (hu.2 q.2.2).1.2),V⟩,V⟩
   refine Qq ?_
   exact Zd V V (Ym _) by1 ⟨⟨_,iff_f (fun q=>g96 (hu.2 q.2.2).1.1),V⟩,V⟩
  refine Qq ?_
  exact Zd V V (Ym _) by1 ⟨⟨_,iff_f (fun q=>g59 q.2.1),V⟩,V⟩
 refine Qq ?_
 exact Zd V V (Ym _) by1 ⟨⟨_,iff_f (fun q=>g55 q.1),V⟩,V⟩
theorem rfun_c (a:Af) (f:Fu) (hb:St.sizes f.b≤100000000):BCall Try.prog 21 ([]++[.agg f.cells]++[.cptr a.cells,.cptr [.seq 9 (Pm.cellss prims)]]) (FunR prims a f):=by
 have HL:=fun h1 h2=>rlist_c a f prims h1 h2 (by rw [prims_len];omega) (St.sizes f.b) f.b (Nat.le_refl _) hb
 unfold ListC at HL
 unfold FunR
 generalize St.rights prims a f f.b=pS at *
 obtain ⟨fu,gl,ys,no⟩:=a
 obtain ⟨sl,cp,b⟩:=f
 simp only [Fu.sl,Fu.cp,Fu.b] at *
 refine Zc Try.func21 V (by kernel_rfl) V (Yq V) ?_
 refine Qi ?_
 refine Zb 3 V V V (op_boxc (cs':=[_,_,_]) V V V V ?_)
 refine Qu ?_
 refine Zo 4 (1≤sl∧sl≤1048576∧0≤cp∧pS) ?_ _ _ V ?_
 ·skip
  refine Q1 ?_;intro c7 h7
  refine Qa ?_
  obtain ⟨rfl,g7⟩|⟨rfl,g7⟩:=Za h7
  ·skip
   refine Q4 ?_
   refine QZ ?_
   refine QM ?_
   refine Yp V ?_ by4 by1
   simp_all;omega
  skip
  refine Qc ?_
  refine Qbp ?_;intro c11 h11
  refine Qh ?_
  obtain ⟨rfl,g11⟩|⟨rfl,g11⟩:=Za h11
  ·skip
   refine QZ ?_
   refine QM ?_
   refine Yp V ?_ by4 by1
   simp_all;omega
  skip
  refine Qc ?_
  refine QbH ?_;intro c16 h16
  refine Qh ?_
  obtain ⟨rfl,g16⟩|⟨rfl,g16⟩:=Za h16
  ·skip
   refine Qf ?_
   refine QM ?_
   refine Yp V ?_ by4 by1
   simp_all;omega
  skip
  refine Zg 19 V V V V V (Zp (cs':=[_,_,_,_]) V ta_24 V V V (Zg 20 V V V V V (Zp (cs':=[_,_,_]) V ta_27 V V V (Zg 21 V V V V V (op_load_c1 V ta_71 V V (Zg 22 V V V V V (Zn (ns:=[0,1,2]) (xs:=[.tmp 19,.tmp 20,.tmp 21]) V tz_75 V tfl_75 V V V V ?_)))))))
  refine Qc ?_
  refine Zg 25 V V V V V (Zk (xs:=[.tmp 22,.tmp 24]) V V ((HL by11 by11)) by0 ?_);intro c25 h25
  refine Qm ?_
  refine Yp V ?_ by4 by1
  simp_all;done
 intro c4 h4
 refine Qs ?_
 exact Zd V V (Ym _) by1 ⟨⟨_,h4,V⟩,V⟩
theorem aRight_c (a:Af) (hb:∀ f∈a.fu,St.sizes f.b≤100000000):BCall Try.prog 9 [.agg a.cells] (RightA prims a):=by
 have HF:=EvA_Fu (FunR prims a) 21 [] [.cptr a.cells,.cptr [.seq 9 (Pm.cellss prims)]] a.fu (fun f hf=>rfun_c a f (hb f hf))
 unfold RightA
 generalize (∀ f∈a.fu,FunR prims a f)=pF at *
 obtain ⟨fu,gl,ys,no⟩:=a
 simp only [Af.fu,Af.gl,Af.ys,Af.no] at *
 have hfn:=Fu.cellss_len fu
 obtain ⟨⟨wsl,wcp,wb⟩,hw⟩:∃ p:Fu,0<fu.length→fu[0]?=some p:=by
  by_cases q:0<fu.length
  ·exact ⟨fu[0],fun _=>List.getElem?_eq_getElem q⟩
  exact ⟨⟨0,0,[]⟩,fun h=>absurd h q⟩
 have hw0:0<fu.length→((∀ f,fu[0]?=some f→f.cp=0)↔wcp=0):=fun q=>by
  rw [hw q]
  exact ⟨fun z=>z _ V,fun z f e=>by cases e;exact z⟩
 generalize (∀ f,fu[0]?=some f→f.cp=0)=pC at *
 rw [ne_nil_iff]
 refine Zc Try.func9 V (by kernel_rfl) V (Yq V) ?_
 refine Qi ?_
 refine Qbz ?_
 refine Q3 ?_
 refine Qbj ?_
 refine Zo 37 (¬ (0<fu.length∧(0≤gl∧gl≤1048576)∧(0≤ys∧ys≤1048576)∧(0≤no∧no≤1048576)∧pC)) ?_ _ _ V ?_
 ·skip
  refine Ql ?_
  refine QbR ?_;intro n7
  refine Qx ?_;intro c8 h8
  refine Qa ?_
  obtain ⟨rfl,g8⟩|⟨rfl,g8⟩:=Za h8
  ·skip
   refine QE ?_
   refine Qc ?_
   refine Zg 13 V V V V V (Zt (xs:=[.tmp 12]) V V V (few_c gl) by0 ?_);intro c13 h13
   refine QU ?_;intro c14 h14
   try replace h14:=Yg h14 h13
   refine Qh ?_
   obtain ⟨rfl,g14⟩|⟨rfl,g14⟩:=Za h14
   ·skip
    refine QE ?_
    refine Qc ?_
    refine Zg 20 V V V V V (Zt (xs:=[.tmp 19]) V V V (few_c ys) by0 ?_);intro c20 h20
    refine QU ?_;intro c21 h21
    try replace h21:=Yg h21 h20
    refine Qh ?_
    obtain ⟨rfl,g21⟩|⟨rfl,g21⟩:=Za h21
    ·skip
     refine QE ?_
     refine Qc ?_
     refine Zg 27 V V V V V (Zt (xs:=[.tmp 26]) V V V (few_c no) by0 ?_);intro c27 h27
     refine QU ?_;intro c28 h28
     try replace h28:=Yg h28 h27
     refine Qh ?_
     obtain ⟨rfl,g28⟩|⟨rfl,g28⟩:=Za h28
     ·skip
      refine Qc ?_
      refine Zg 33 V V V V V (Zj V te_22 V (.seq _ _) V V (Fu.cellss_get (hw by11)) ?_)
      refine Qbh ?_;intro c36 h36
      refine QH ?_
      refine Yp V ?_ by4 by1
      rw [h36,hw0 by11];omega
     skip
     refine Qa0 ?_
     refine Yp V ?_ by4 by1
     simp only [true_iff];omega
    skip
    refine Qf ?_
    refine Qad ?_
    refine Qaq ?_
    refine Yp V ?_ by4 by1
    simp only [true_iff];omega
   skip
   refine Qf ?_
   refine Qad ?_
   refine Qad ?_
   refine Qaq ?_
   refine Yp V ?_ by4 by1
   simp only [true_iff];omega
  skip
  refine Qf ?_
  refine Qad ?_
  refine Qad ?_
  refine Qad ?_
  refine Qaq ?_
  refine Yp V ?_ by4 by1
  simp only [true_iff];omega
 intro c37 h37
 refine Qj ?_
 obtain ⟨rfl,g37⟩|⟨rfl,g37⟩:=Za h37
 ·refine Q7 ?_
  have e1:=Classical.not_not.1 g37
  refine Qk ?_
  refine Zb 38 V V V (Zl (xs:=[]) V V (Prims_c) by0 ?_)
  refine Zb 4 V V V (Zv (cs':=[_]) V tz_71 V V ?_);intro b4
  refine Zq V V (Zm (cs':=[_]) (i:=0) V ts_71 V V V V V (Yq V) V ?_)
  refine Qg ?_
  refine c_fixl 4 0 V V ?_
  refine QaV ?_
  refine Zb 41 V V V (Yf (fs:=[]) (cs:=[.tmp 1,.tmp 4]) V V V (Zb 42 V V V (Zk (xs:=[.tmp 40,.tmp 41]) V V (HF) by0 ?_)));intro c42 h42
  refine Qe ?_
  exact Zd V V (Ym _) by1 ⟨⟨_,h42.trans ⟨fun q=>⟨e1,q⟩,fun q=>q.2⟩,V⟩,V⟩
 refine Qq ?_
 exact Zd V V (Ym _) by1 ⟨⟨_,iff_f (fun q=>g37 q.1),V⟩,V⟩
theorem decs_c (N:Nat) (hN0:N≤1000000000):∀ (d:De) (m:Int),d.size≤N→0≤m→m≤1000000000→PCall Try.prog 17 [.agg d.cells,.val (.int .i64 m)] (.val (.int .i64 (d.cnt m))):=by
 induction N with
 | zero=>intro d m h;have:=d.size_pos;omega
 | succ N IH =>
  rintro ⟨k,a,p,cs,es⟩ m hN hm0 hm
  replace IH:=IH by11
  rw [De.size] at hN
  have hcn:=Dc.cellss_len cs
  have hen:=De.cellss_len es
  have hpn:=nums_len p
  have hbc:=Dc.cnts_b cs (1+p.length) m
  rw [De.cnt]
  refine Zc Try.func17 V (by kernel_rfl) V (Yq V) ?_
  refine QJ ?_
  refine c_lena (t:=0) (j:=3) V V (.seq _ _) (fun hmax=>?_)
  refine c_lena (t:=0) (j:=4) V V (.seq _ _) (fun hmax2=>?_)
  refine Qy ?_
  refine Qbo ?_
  refine Q3 ?_
  refine Ql ?_
  refine Qa6 ?_;intro n10
  refine QS ?_
  refine Qu ?_
  refine Qy ?_
  refine Qb ?_
  refine QN ?_
  apply Zu (rg [(0,1),(3,1),(5,2),(8,28)]) (σ:=Nat × Int) (fun zz=>match zz with|(i,n)=>[(6,.val (.int .i64 (i:Nat))),(5,.val (.int .i64 n))]) (fun zz=>match zz with|(i,n)=>i≤cs.length∧0≤n∧n+Dc.sizes (cs.drop i)≤1+p.length+Dc.sizes cs∧Dc.cnts (cs.drop i) n m=Dc.cnts cs (1+p.length) m) (fun zz=>match zz with|(i,n)=>cs.length - i) ((0,1+(p.length:Int)))
  ·repeat' (first|exact Yt|apply Yr rfl|apply Ys rfl)
  ·exact ⟨Nat.zero_le _,by show (0:Int)≤1+(p.length:Int);omega,by show 1+(p.length:Int)+_≤_;simp,V⟩
  ·exact SLe.cons V (Ym _) (SLe.cons V (Le.ieq (by show _=1+(p.length:Int);omega)) (SLe.nil _))
  rintro ⟨i,n⟩ hI
  try dsimp only [List.cons_append,List.nil_append] at hI ⊢
  obtain ⟨hi,hn0,hnb,hc⟩:=hI
  refine Qo ?_
  refine Qo ?_
  refine Zo 21 (i<cs.length∧n<m) ?_ _ _ V ?_
  ·skip
   refine Qa ?_
   refine Ql ?_
   refine Qb9 ?_;intro n15
   refine Qav ?_;intro c16 h16
   refine Qa ?_
   obtain ⟨rfl,g16⟩|⟨rfl,g16⟩:=Za h16
   ·skip
    refine Qbc ?_
    refine Yp V ?_ by4 by1
    simp_all;omega
   skip
   refine QE ?_
   refine QaN ?_;intro c20 h20
   refine QH ?_
   refine Yp V ?_ by4 by1
   simp_all;done
  intro c21 h21
  refine Qj ?_
  obtain ⟨rfl,g21⟩|⟨rfl,g21⟩:=Za h21
  ·refine Qac ?_
   refine Qo ?_
   have hc2:Dc.cnts cs (1+p.length) m=n:=by
    rw [← hc]
    rcases Nat.lt_or_ge i cs.length with q|q
    ·exact Dc.cnts_ge (fun z=>g21 ⟨q,z⟩)
    rw [List.drop_eq_nil_of_le q];rfl
   rw [hc2] at hbc ⊢
   clear hc2 hc g21
   refine Qk ?_
   refine Qb ?_
   refine QN ?_
   apply Zu (rg [(0,1),(3,1),(5,54)]) (σ:=Nat × Int) (fun zz=>match zz with|(j,n2)=>[(7,.val (.int .i64 (j:Nat))),(5,.val (.int .i64 n2))]) (fun zz=>match zz with|(j,n2)=>j≤es.length∧0≤n2∧n2+De.sizes (es.drop j)≤n+De.sizes es∧De.cnts (es.drop j) n2 m=De.cnts es n m) (fun zz=>match zz with|(j,n2)=>es.length - j) ((0,n))
   ·repeat' (first|exact Yt|apply Yr rfl|apply Ys rfl)
   ·exact ⟨Nat.zero_le _,hn0,by simp,V⟩
   ·exact by2
   rintro ⟨j,n2⟩ hI
   try dsimp only [List.cons_append,List.nil_append] at hI ⊢
   obtain ⟨hj,hn20,hnb2,hc⟩:=hI
   refine Qo ?_
   refine Qo ?_
   refine Zo 45 (j<es.length∧n2<m) ?_ _ _ V ?_
   ·skip
    refine Qa ?_
    refine Ql ?_
    refine Qca ?_;intro n39
    refine Qav ?_;intro c40 h40
    refine Qa ?_
    obtain ⟨rfl,g40⟩|⟨rfl,g40⟩:=Za h40
    ·skip
     refine Qbc ?_
     refine Yp V ?_ by4 by1
     simp_all;omega
    skip
    refine QE ?_
    refine QaN ?_;intro c44 h44
    refine QH ?_
    refine Yp V ?_ by4 by1
    simp_all;done
   intro c45 h45
   refine Qj ?_
   obtain ⟨rfl,g45⟩|⟨rfl,g45⟩:=Za h45
   ·refine Qao ?_
    refine Qj ?_
    refine Qr ?_
    refine Qe ?_
    refine Zd V V (Ym _) by1 ⟨?_,V⟩
    rw [← hc]
    rcases Nat.lt_or_ge j es.length with q|q
    ·rw [De.cnts_ge (fun z=>g45 ⟨q,z⟩)]
    rw [List.drop_eq_nil_of_le q];rfl
   refine QO ?_
   refine c_skip ?_
   refine QV ?_
   refine QN ?_
   obtain ⟨g1,g2⟩:=g45
   obtain ⟨x,hx⟩:=Zh (l:=es) (i:=j) by11
   have hcx:=De.cellss_get hx
   have hsx:=De.sizes_get hx
   have hdr:=De.cnts_drop (m:=m) hx g2
   have hsd:De.sizes (es.drop j)=x.size+De.sizes (es.drop (j+1)):=by rw [Ye hx,De.sizes]
   have H:=IH x (m - n2) by11 by11 by11
   have hb:=De.cnt_b x (m - n2)
   generalize x.cnt (m - n2)=r at *
   generalize x.size=sz at *
   obtain ⟨dk,da,dp,dc,de⟩:=x
   simp only [De.cells] at hcx H
   refine Qn ?_
   refine Ql ?_
   refine Qa ?_
   refine Zb 52 V V V (Zj V te_46 V (.seq _ _) V V (hcx) ?_)
   refine QbG ?_
   refine Qa ?_
   refine Qa ?_
   refine QbZ ?_
   refine Zb 57 V V V (Zl (xs:=[.tmp 53,.tmp 56]) V V (H) by0 ?_)
   refine Qau ?_
   refine QaJ ?_
   refine Qn ?_
   refine Qau ?_
   refine go_lp ?_
   exact ⟨(j+1,n2+r),⟨by show j+1≤es.length;omega,by show 0≤n2+r;omega,by show n2+r+(De.sizes (es.drop (j+1)):Nat)≤n+(De.sizes es:Nat);omega,by rw [← hc,hdr]⟩,by show es.length - (j+1)<es.length - j;omega,by2,by1⟩
  refine QO ?_
  refine c_skip ?_
  refine QV ?_
  refine QN ?_
  obtain ⟨g1,g2⟩:=g21
  obtain ⟨x,hx⟩:=Zh (l:=cs) (i:=i) by11
  have hcx:=Dc.cellss_get hx
  have hsx:=Dc.sizes_get hx
  have hdr:=Dc.cnts_drop (m:=m) hx g2
  have hsd:Dc.sizes (cs.drop i)=x.size+Dc.sizes (cs.drop (i+1)):=by rw [Ye hx,Dc.sizes]
  obtain ⟨xk,xs,xn,xd⟩:=x
  rw [Dc.size] at hsx hsd
  simp only [Dc.d] at hdr
  have H:=IH xd (m - n) by11 by11 by11
  have hb:=De.cnt_b xd (m - n)
  generalize xd.cnt (m - n)=r at *
  generalize xd.size=sz at *
  obtain ⟨dk,da,dp,dc,de⟩:=xd
  simp only [Dc.cells,De.cells] at hcx H
  refine Qn ?_
  refine Ql ?_
  refine Qa ?_
  refine Zb 28 V V V (Zj V te_45 V (.seq _ _) V V (hcx) ?_)
  refine QaG ?_
  refine QbG ?_
  refine Qa ?_
  refine Qa ?_
  refine QbZ ?_
  refine Zb 34 V V V (Zl (xs:=[.tmp 30,.tmp 33]) V V (H) by0 ?_)
  refine Qau ?_
  refine QaJ ?_
  refine Qn ?_
  refine Qau ?_
  refine go_lp ?_
  exact ⟨(i+1,n+r),⟨by show i+1≤cs.length;omega,by show 0≤n+r;omega,by show n+r+(Dc.sizes (cs.drop (i+1)):Nat)≤1+p.length+(Dc.sizes cs:Nat);omega,by rw [← hc,hdr]⟩,by show cs.length - (i+1)<cs.length - i;omega,by2,by1⟩
set_option maxHeartbeats 8000000 in
theorem scount_c (N:Nat) (hN0:N≤500000000):∀ (l:List St) (m:Int),St.ws l≤N→0≤m→m≤500000000→PCall Try.prog 8 [.seq 13 (St.cellss l),.val (.int .i64 m)] (.val (.int .i64 (St.cnts l 0 m))):=by
 induction N using Nat.strongRecOn with
 | ind N IH =>
  intro l m hN hm0 hm
  have hln:=St.cellss_len l
  refine Zc Try.func8 V (by kernel_rfl) V (Yq V) ?_
  refine QJ ?_
  refine c_lens (t:=0) V (.seq _ _) (fun hmax=>?_)
  refine Qy ?_
  refine Q3 ?_
  refine Qu ?_
  refine Qr ?_
  refine Qb8 ?_;intro n13
  refine Qv ?_
  apply Zu (rg [(0,1),(2,10),(14,57)]) (σ:=Nat × Int) (fun zz=>match zz with|(i,n)=>[(14,.val (.int .i64 (i:Nat))),(5,.val (.int .i64 n))]) (fun zz=>match zz with|(i,n)=>i≤l.length∧0≤n∧n≤m∧n+St.ws (l.drop i)≤St.ws l∧St.cnts (l.drop i) n m=St.cnts l 0 m) (fun zz=>match zz with|(i,n)=>l.length - i) ((0,0))
  ·repeat' (first|exact Yt|apply Yr rfl|apply Ys rfl)
  ·exact ⟨Nat.zero_le _,by show (0:Int)≤0;omega,hm0,by show (0:Int)+_≤_;simp,V⟩
  ·exact by2
  rintro ⟨i,n⟩ hI
  try dsimp only [List.cons_append,List.nil_append] at hI ⊢
  obtain ⟨hi,hn0,hnm,hnb,hc⟩:=hI
  refine Qw ?_;intro c15 h15
  refine Qg ?_
  obtain ⟨rfl,g15⟩|⟨rfl,g15⟩:=Za h15
  ·refine Qao ?_
   refine Qj ?_
   refine Qr ?_
   refine Qe ?_
   refine Zd V V (Ym _) by1 ⟨?_,V⟩
   rw [← hc,List.drop_eq_nil_of_le by11];rfl
  refine Qp ?_
  obtain ⟨x,hx⟩:=Zh (l:=l) (i:=i) by11
  have hcx:=St.cellss_get hx
  have hsd:St.ws (l.drop i)=x.w+St.ws (l.drop (i+1)):=by rw [Ye hx,St.ws]
  have hdr:=St.cnts_drop (n:=n) (m:=m) hx
  have hxb:=St.cnt_b x n m
  obtain ⟨k,t,a,s,ar,fs,cp,d,arms⟩:=x
  have hct:(St.mk k t a s ar fs cp d arms).cnt n m=St.cntss arms (n+(1+ar.length+fs.length+d.cnt m)+capW cp) m:=by rw [St.cnt]
  rw [hct] at hdr hxb
  rw [St.w] at hsd hxb
  have HD:=decs_c d.size by11 d m (Nat.le_refl _) hm0 by11
  have hdb:=De.cnt_b d m
  have IH2:=fun y (hy:y∈arms) (q:Int) (q0:0≤q) (q1:q≤500000000)=>IH (St.ws y) (by
   obtain ⟨z,hz⟩:=List.getElem?_of_mem hy
   have:=St.wss_get hz
   omega) (by
   obtain ⟨z,hz⟩:=List.getElem?_of_mem hy
   have:=St.wss_get hz
   omega) y q (Nat.le_refl _) q0 q1
  generalize d.cnt m=dn at *
  generalize d.size=dz at *
  have hl1:=Ato.cellss_len ar
  have hl2:=nums_len fs
  have hl3:=Ato.cellsss_len cp
  have hl4:=St.cellsss_len arms
  obtain ⟨dk,da,dp,dc,de⟩:=d
  simp only [St.cells,De.cells,List.cons_append,List.nil_append] at hcx HD
  refine Qk ?_
  refine QcK ?_
  refine QbS ?_
  refine QcL ?_;intro b7
  refine QcM ?_
  refine Qg ?_
  refine c_drawn tmix V ?_
  refine QF ?_
  refine Qbt ?_
  refine Qci ?_
  refine Zy 21 V V (Ya V tu_42 V (.seq _ _) (fun _=>⟨V,V⟩)) ?_
  refine Qb2 ?_
  refine Qbt ?_
  refine Qci ?_
  refine Zy 25 V V (Ya V tu_43 V (.seq _ _) (fun _=>⟨V,V⟩)) ?_
  refine Qb2 ?_
  refine Qbt ?_
  refine Zy 28 V V (Zs (cs':=[_,_,_,_,_]) (i:=0) V ta_48 V V V V ⟨V,V⟩) ?_
  refine QF ?_
  refine Zy 30 V V (Zl (xs:=[.tmp 28,.tmp 29]) V V (HD) by0 ⟨V,V⟩) ?_
  refine Qb2 ?_
  refine Qb2 ?_
  refine Qcc ?_
  show AGo _ _ _ _ _ _ _
  refine QV ?_
  refine Qy ?_
  refine Qt ?_
  refine QcB ?_;intro n35
  refine Qv ?_
  apply Zu (rg [(0,1),(2,2),(5,2),(8,3),(36,10)]) (σ:=Nat × Int) (fun zz=>match zz with|(j,n2)=>[(36,.val (.int .i64 (j:Nat))),(5,.val (.int .i64 n2))]) (fun zz=>match zz with|(j,n2)=>j≤cp.length∧n2=n+(1+ar.length+fs.length+dn)+capW (cp.take j)) (fun zz=>match zz with|(j,n2)=>cp.length - j) ((0,n+(1+ar.length+fs.length+dn)))
  ·repeat' (first|exact Yt|apply Yr rfl|apply Ys rfl)
  ·exact ⟨Nat.zero_le _,by show _=_+((capW []):Int);simp [capW]⟩
  ·exact SLe.cons V (Ym _) (SLe.cons V (Le.ieq (by show _=n+(1+ar.length+fs.length+dn);omega)) (SLe.nil _))
  rintro ⟨j,n2⟩ hI
  try dsimp only [List.cons_append,List.nil_append] at hI ⊢
  obtain ⟨hj,hn2⟩:=hI
  refine Qw ?_;intro c37 h37
  refine Qg ?_
  obtain ⟨rfl,g37⟩|⟨rfl,g37⟩:=Za h37
  ·refine Qac ?_
   refine Qo ?_
   rw [List.take_of_length_le by11] at hn2
   rw [← hn2] at hct hdr hxb
   refine Qk ?_
   refine Qt ?_
   refine QbF ?_;intro n48
   refine Qv ?_
   apply Zu (rg [(0,1),(2,5),(8,1),(10,2),(49,17)]) (σ:=Nat × Int) (fun zz=>match zz with|(k3,n3)=>[(49,.val (.int .i64 (k3:Nat))),(5,.val (.int .i64 n3))]) (fun zz=>match zz with|(k3,n3)=>k3≤arms.length∧n2≤n3∧n3+St.wss (arms.drop k3)≤n2+St.wss arms∧St.cntss (arms.drop k3) n3 m=St.cntss arms n2 m) (fun zz=>match zz with|(k3,n3)=>arms.length - k3) ((0,n2))
   ·repeat' (first|exact Yt|apply Yr rfl|apply Ys rfl)
   ·exact ⟨Nat.zero_le _,by show n2≤n2;omega,by show n2+_≤_;simp,V⟩
   ·exact by2
   rintro ⟨k3,n3⟩ hI
   try dsimp only [List.cons_append,List.nil_append] at hI ⊢
   obtain ⟨hk3,hn3,hnb3,hc3⟩:=hI
   refine Qw ?_;intro c50 h50
   refine Qg ?_
   obtain ⟨rfl,g50⟩|⟨rfl,g50⟩:=Za h50
   ·refine Qac ?_
    have e:St.cntss arms n2 m=n3:=by rw [← hc3,List.drop_eq_nil_of_le by11,St.cntss]
    rw [e] at hdr hxb
    refine Qaz ?_
    refine QbV ?_;intro c68 h68
    refine Qd ?_
    obtain ⟨rfl,g68⟩|⟨rfl,g68⟩:=Za h68
    ·refine Qaa ?_
     exact ⟨(i+1,n3),⟨by show i+1≤l.length;omega,by show 0≤n3;omega,by show n3≤m;omega,by show n3+((St.ws (l.drop (i+1)):Nat):Int)≤((St.ws l:Nat):Int);omega,by rw [← hc,hdr,if_neg by11]⟩,by show l.length - (i+1)<l.length - i;omega,by2,by1⟩
    refine QaA ?_
    refine Zd V V (Ym _) by1 ⟨?_,V⟩
    rw [← hc,hdr,if_pos by11]
   refine Qp ?_
   obtain ⟨y,hy⟩:=Zh (l:=arms) (i:=k3) by11
   have hcy:=St.cellsss_get hy
   have hws:St.wss (arms.drop k3)=1+St.ws y+St.wss (arms.drop (k3+1)):=by rw [Ye hy,St.wss]
   refine Qk ?_
   refine Zb 51 V V V (Zj V te_49 V (.seq _ _) V V (hcy) ?_)
   refine QR ?_
   refine Qu ?_
   refine Qr ?_
   refine Qa ?_
   refine QbV ?_;intro c55 h55
   refine Qd ?_
   obtain ⟨rfl,g55⟩|⟨rfl,g55⟩:=Za h55
   ·refine QB ?_
    refine Qj ?_
    have HC:=IH2 y (Yu hy) (m - n3) by11 by11
    have hyb:=St.cnts_b y 0 (m - n3)
    have hsk:=St.cntss_drop (n:=n3) (m:=m) hy by11
    generalize St.cnts y 0 (m - n3)=r at *
    refine Qaz ?_
    refine Qa ?_
    refine Qa ?_
    refine QbZ ?_
    refine Zb 62 V V V (Zl (xs:=[.tmp 58,.tmp 61]) V V (HC) by0 ?_)
    refine QS ?_
    refine Qau ?_
    refine QT ?_
    exact ⟨(k3+1,n3+(1+r)),⟨by show k3+1≤arms.length;omega,by show n2≤n3+(1+r);omega,by show n3+(1+r)+((St.wss (arms.drop (k3+1)):Nat):Int)≤n2+((St.wss arms:Nat):Int);omega,by rw [← hc3,hsk]⟩,by show arms.length - (k3+1)<arms.length - k3;omega,by2,by1⟩
   refine QaA ?_
   refine Zd V V (Ym _) by1 ⟨?_,V⟩
   have e:St.cntss arms n2 m=n3:=by rw [← hc3,St.cntss_ge by11]
   rw [← hc,hdr,e,if_pos by11]
  refine Qp ?_
  obtain ⟨c,hcc⟩:=Zh (l:=cp) (i:=j) by11
  have hcl:=Ato.cellsss_get hcc
  have hct:=capW_take hcc
  have hcb:=capW_le cp (j+1)
  have hll:=Ato.cellss_len c
  refine Qk ?_
  refine Zb 38 V V V (Zj V te_44 V (.seq _ _) V V (hcl) ?_)
  refine QR ?_
  refine Qb ?_
  refine Qaz ?_
  refine Qbv ?_;intro n42
  refine QS ?_
  refine Qau ?_
  refine QT ?_
  exact ⟨(j+1,n2+(1+c.length)),⟨by show j+1≤cp.length;omega,by show n2+(1+c.length)=n+(1+ar.length+fs.length+dn)+((capW (cp.take (j+1)):Nat):Int);omega⟩,by show cp.length - (j+1)<cp.length - j;omega,SLe.cons V (Ym _) (SLe.cons V (Le.ieq (by show _=n2+(1+(c.length:Int));omega)) by2),by1⟩
end Go.Proofs.Ytbfogofpgcndfaa
namespace Go.Proofs.Ytbfogofpgcndfaa
open Go.RowKit
def AllL (p:Nat→Prop):List Nat→Prop
 | []=>True
 | i::is=>p i∧AllL p is
theorem AllL.get {p:Nat→Prop}:∀ {is:List Nat},AllL p is→∀ i∈is,p i
 | [],_,i,h=>by simp at h
 | j::is,h,i,hi=>by
  rcases List.mem_cons.1 hi with rfl|hi
  ·exact h.1
  exact AllL.get h.2 i hi
def ADraw (ro:Option Nat) (P:Program) (n:Nat) (l:List Oper) (QQ:Exit→Sl→Mem→Prop) (fuel:Nat) (lis:List Bool) (al:Sl) (M:Mem):Prop :=
 ∀ (B:Nat) (F0:EH) (Mf:Mem) (w0:World) (ds:List Deferred) (F:EH) (a:Act) (w:World),Ext F0 F→Inv B F (M++Mf) w→Slots n F al a.tmps→a.defers=ds→Below B w0 w →
  wpAnyIn (RF ro) 0 P .any l.toArray (fun e a' w'=>PostD n B F0 Mf w0 ds (QQ e) a' w') fuel lis.toArray a w
section
variable {ro:Option Nat} {P:Program} {n:Nat} {l:List Oper} {QQ:Exit→Sl→Mem→Prop} {fuel:Nat} {lis:List Bool} {al:Sl} {M:Mem}
theorem ADraw.done (hr:Region.ready .any l.toArray lis.toArray=[]) (h:QQ .normal al M):ADraw ro P n l QQ fuel lis al M:=by
 intro B F0 Mf w0 ds F a w hE hi hs hd hb
 have hq:PostD n B F0 Mf w0 ds (QQ .normal) a w:=⟨[],F,al,M,h,hE,hi,hs,hd,hb⟩
 cases fuel with
 | zero=>exact ⟨hr,hq⟩
 | succ k=>exact ⟨fun _=>hq,fun i hi=>by rw [hr] at hi;simp at hi⟩
theorem ADraw.step (is:List Nat) (hr:Region.ready .any l.toArray lis.toArray=is) (hne:is.isEmpty=false)
    (h:AllL (fun i=>∃ o,l[i]?=some o∧o.guard=none∧(o.dst.all fun d=>Nat.blt d n)=true∧OpT P o al M (fun v M'=>ADraw ro P n l QQ fuel (lis.set i true) (al.put o.dst v) M')) is):ADraw ro P n l QQ (fuel+1) lis al M:=by
 intro B F0 Mf w0 ds F a w hE hi hs hd hb
 refine ⟨fun e=>?_,fun i hmi=>?_⟩
 ·rw [hr] at e;subst e;simp at hne
 rw [hr] at hmi
 obtain ⟨o,ho,hg,hin,hop⟩:=h.get i hmi
 unfold wpOpIn
 simp only [List.getElem?_toArray,ho]
 rw [if_pos (by simp [Region.wanted,hg])]
 refine wp_exits (Oper.wpIn_mono ?_ (hop n B F Mf a w hi hs ro))
 rintro a' w' ⟨u,v,M',F',rfl,hK,hr',hE',hi',hb'⟩
 have hin':o.dst.all (·<n)=true:=by
  cases hdst:o.dst with
  | none=>rfl
  | some d=>rw [hdst] at hin;simpa [Nat.blt_eq] using hin
 have:=hK B F0 Mf w0 ds F' (a.put o.dst u) w' (hE.trans hE') hi' (Slots.put (hs.mono hE') hin' hr') (by rw [← hd];cases o.dst <;> rfl) (hb.trans hb')
 rwa [show (lis.set i true).toArray=lis.toArray.setIfInBounds i true by simp] at this
end
section
variable {ro:Option Nat} {P:Program} {n:Nat} {l:List Oper} {QQ:Exit→Sl→Mem→Prop} {fuel fuel':Nat} {lis lis':List Bool} {al al':Sl} {M M':Mem}
theorem ADraw.le (hs:SLe al al') (hm:MLe M M') (h:ADraw ro P n l QQ fuel lis al' M'):ADraw ro P n l QQ fuel lis al M :=
 fun B F0 Mf w0 ds F a w hE hi hsl=>h B F0 Mf w0 ds F a w hE (hi.le hm) (hsl.le hs)
end
section
variable {P:Program} {o:Oper} {al:Sl} {M:Mem} {K:AV→Mem→Prop}
theorem op_append_rowh {s x:Operand} {t e:TypeId} {z u:Value} {m bytes i:Nat} {v:AV} {es es':List (List AV)} (E:ElT P t e z m bytes) (ho:o.op=.call { callee:=.builtin .append,args:=#[s,x],argTypes:=#[t,t] }) (hs:al.ev s=some (.val u)) (hm:M[i]?=some (.row e m u es)) (hx:al.ev x=some v) (hv:IsSeq v m es') (hn:es.length+es'.length≤100000000000) (h0:0<es.length+es'.length)
    (q:∀ g cap,K (.val (rowv g (es.length+es'.length) cap)) (M.set i (.row e m (rowv g (es.length+es'.length) cap) (es++es')))):OpT P o al M K:=by
 intro n B F Mf a w hi hsl ro
 have hil:i<M.length:=get_lt hm
 have hu:=Zw hsl hs
 have hi2:=hi.perm ((perm_at hm).append_right Mf)
 rw [List.cons_append] at hi2
 obtain ⟨u',w',hrun,hi',hb⟩:=row_core (ty:=o.type) E hi2 (hv.rel (hsl.ev hx)) hn
 have hform:∃ g cap,u'=rowv g (es.length+es'.length) cap:=by
  obtain ⟨xs,hown,_⟩:=hi'.ok _ (List.mem_cons_self)
  rw [List.length_append] at hown
  obtain ⟨rfl,h0⟩|⟨g,cap,cur,rfl,_⟩:=hown.2
  ·omega
  exact ⟨g,cap,V⟩
 obtain ⟨g,cap,rfl⟩:=hform
 refine wpR_value (w':=w') ?_ ⟨_,_,_,F,V,q g cap,.val _,Ext.refl F,?_,hb⟩
 ·simp [execOp,ho,resolve,invoke,builtin,hu,hrun]
 refine hi'.perm ?_
 rw [← List.cons_append]
 exact ((perm_set _ hil).append_right Mf).symm
end
theorem set_flat {α:Type} {m:Nat}:∀ (es:List (List α)) (k f:Nat) (c:α) (cs:List α),(∀ e∈es,e.length=m)→es[k]?=some cs→f<m→es.flatten.set (k * m+f) c=(es.set k (cs.set f c)).flatten
 | [],k,f,c,cs,_,h,_=>by simp at h
 | e::es,0,f,c,cs,hw,h,hf=>by
  have he:=hw e by12
  simp at h
  subst h
  rw [List.flatten_cons,Nat.zero_mul,Nat.zero_add,List.set_append_left _ _ by11,List.set_cons_zero,List.flatten_cons]
 | e::es,k+1,f,c,cs,hw,h,hf=>by
  have he:=hw e by12
  have hk:(k+1) * m+f=m+(k * m+f):=by rw [Nat.add_mul];omega
  have:=set_flat es k f c cs (fun x hx=>hw x (by simp [hx])) (by simpa using h) hf
  rw [List.flatten_cons,List.set_append_right _ _ by11,show (k+1) * m+f - e.length=k * m+f by omega,this,List.set_cons_succ,List.flatten_cons]
theorem op_store_row1 {P:Program} {o:Oper} {al:Sl} {M:Mem} {K:AV→Mem→Prop} {x y:Operand} {t e:TypeId} {m i g n cap off k f:Nat} {v c:AV} {cs:List AV} {es:List (List AV)} (ho:o.op=.store t x y) (ht:(P.info? t).map (·.size)=some 1) (hx:al.ev x=some (.ptr g off)) (hy:al.ev y=some v) (hf:v.flat=true) (hs:v.cells=[c]) (hm:M[i]?=some (.row e m (rowv g n cap) es)) (hoff:off=k * m+f) (hk:es[k]?=some cs) (hfm:f<m) (q:K (.val undef) (M.set i (.row e m (rowv g n cap) (es.set k (cs.set f c))))):OpT P o al M K:=by
 intro n' B F Mf a w hi hsl ro
 have h:=hsl.ev hx
 generalize he:a.eval x=u at h
 cases h with
 | ptr =>
  obtain ⟨h1,h2⟩:=(hsl.ev hy).cells hf
  obtain ⟨cur,hr⟩:=hi.rowAt hm
  have hl1:=h1.len
  rw [hs] at h1 hl1
  have hkl:=get_lt hk
  have hcw:cs.length=m:=hr.wid _ (Yu hk)
  subst hoff
  have hkm:k * m+m≤n * m:=by
   have:(k+1) * m≤n * m:=Nat.mul_le_mul_right _ (by rw [hr.len];omega)
   rw [Nat.add_mul] at this;omega
  have hnc:n * m≤cap * m:=Nat.mul_le_mul_right _ hr.fit
  have hcl:cur.toList.length=cap * m:=hr.siz
  simp only [List.length_cons,List.length_nil] at hl1
  obtain ⟨w',q1,q2,q3,q4,q5,q6,q7⟩:=storeCells_run (P:=P) (a.eval y).cells.toList w cur.toList (k * m+f) 0 (by simpa using hr.at_) h2 by11
  have hrun:(execOp a.eval o).run P w=.ok .skip w':=by
   obtain ⟨inf,hinf,hsz⟩:=Option.map_eq_some_iff.1 ht
   have hcs:(a.eval y).cells.size=1:=by rw [← Array.length_toList];omega
   simp [execOp,ho,he,Instr.storeAt,Instr.sureAddr,storeVar,sizeOf,typeInfo,hinf,hsz,hcs,q1]
  have htk:(setL cur.toList (k * m+f) (a.eval y).cells.toList).take (n * m)=setL (cur.toList.take (n * m)) (k * m+f) (a.eval y).cells.toList:=take_setL _ _ _ _ by11
  have hrow:RowAt B F w' e m g n cap (es.set k (cs.set f c)) (setL cur.toList (k * m+f) (a.eval y).cells.toList).toArray:=by
   refine ⟨by simpa using hr.len,hr.ge,hr.no,fun z hz=>?_,q2,hr.fit,hr.max,by simpa [setL_len] using hr.siz,?_,?_⟩
   ·rcases List.mem_or_eq_of_mem_set hz with hz|rfl
    ·exact hr.wid z hz
    simpa using hcw
   ·rw [← set_flat es k f c cs hr.wid hk hfm,htk]
    exact h1.setL _ hr.rel
   rw [htk]
   exact setL_one _ _ _ h2 hr.one
  refine wpR_skip hrun ⟨undef,.val undef,_,F,V,q,.val _,Ext.refl F,hi.put hm (b:=g) V V hr.no hrow.ok q3 q4,⟨q5,q6,q7,by omega,fun k hk=>q3 k (by have:=hr.ge;omega)⟩⟩
def MkM (b:Nat) (mp ls:AV) (g:Gs) (M:Mem):Prop:=∃ u,((u=.slice none 0 0∧g.ins=[])∨∃ gb cap,u=rowv gb g.ins.length cap)∧M=[.loc b [.val u,mp,ls,.val (.int .i64 (g.mo:Nat))],.row 53 7 u (Is.cellss g.ins)]
theorem Is.cellss_app (a b:List Is):Is.cellss (a++b)=Is.cellss a++Is.cellss b:=by simp [Is.cellss]
theorem add_c (b:Nat) (mp ls:AV) (g:Gs) (i:Is) (M:Mem) (hM:MkM b mp ls g M) (hl:g.ins.length≤1000000000):ACall Try.prog 13 [.ptr b 0,.agg i.cells] M (fun _ M'=>MkM b mp ls (addF g i) M'):=by
 obtain ⟨u,hu,rfl⟩:=hM
 have hlen:=Is.cellss_len g.ins
 obtain ⟨op,a,bb,n,ar,fs,cp⟩:=i
 simp only [Is.cells]
 refine Zc Try.func13 V (by kernel_rfl) V (Yq V) ?_
 refine Qi ?_
 refine Qbn ?_
 refine Qd ?_
 refine Yh [0,1,2,3,4,5,6,7,8,9,10] [7,10] [[],[],[1],[1,2],[1,2,3],[],[5],[1,2,3,4,5,6],[0,1,2,3,4,5,6,7],[0,1,2,3,4,5,6,7,8],[0,1,2,3,4,5,6,7,8,9]] tmix V ?_
 refine QD ?_
 refine QD ?_
 refine Qbk ?_
 refine Qa8 ?_
 refine Zf 9 (none) (i:=5) V V V V V (Zp (cs':=[_,_,_,_,_,_,_]) V Zi V V V ⟨V,V⟩) ?_
 refine Zf 10 (none) (i:=6) V V V V V (Zr (xs:=[.tmp 9]) el_30 V V V V V V (Yq V) ⟨V,V⟩) ?_
 refine EOps.w 1 (i:=7) V V V V V (op_append_rowh (i:=0) el_30 V V V V (.seq _ _) by5 (by12) (fun g11 a11=>⟨_,V,?_⟩))
 refine Qbk ?_
 refine EOps.w 0 (i:=10) V V V V V (Zm (i:=0) V ts_30 V V V V V (Yq V) V ⟨_,V,?_⟩)
 show AGo _ _ _ _ _ _ _
 refine go_end ?_
 exact out_none V (Yi _) ⟨rowv g11 ((Is.cellss g.ins).length+1) a11,.inr ⟨g11,a11,by rw [hlen];simp [addF]⟩,by rw [show (addF g (.mk op a bb n ar fs cp)).ins=g.ins++[.mk op a bb n ar fs cp] from V,Is.cellss_app];rfl⟩
def pat (b k:Nat):List AV:=[.clo (.func 71) [] [.cptr [.ptr b 0],.cptr [.val (.int .i64 (k:Nat))]]]
def LbM (l b:Nat) (ks:List Nat) (M:Mem):Prop:=∃ u,M=[.loc l [.own u 1 (ks.map (pat b))],.own 133 1 u]
theorem jump_c (b l:Nat) (mp ls:AV) (g:Gs) (ks:List Nat) (i:Is) (M ML:Mem) (hM:MkM b mp ls g M) (hl:g.ins.length≤1000000000) (hL:LbM l b ks ML) (hk:ks.length≤1000000000):ACall Try.prog 41 [.ptr b 0,.agg i.cells,.ptr l 0] (M++ML) (fun _ M'=>∃ M1 M2,M'=M1++M2∧MkM b mp ls (addF g i) M1∧LbM l b (ks++[g.ins.length]) M2):=by
 have HA:=add_c b mp ls g i M hM hl
 obtain ⟨u,_,rfl⟩:=hM
 obtain ⟨v,rfl⟩:=hL
 have hlen:=Is.cellss_len g.ins
 obtain ⟨op,a,bb,n,ar,fs,cp⟩:=i
 simp only [Is.cells] at HA ⊢
 refine Zc Try.func41 V (by kernel_rfl) V (Yq V) ?_
 refine Qi ?_
 refine Zb 3 V V V (op_boxc (cs':=[_]) V V V V ?_)
 refine Qbn ?_
 refine QaE ?_
 refine QR ?_
 refine Qan ?_
 refine Qt ?_
 refine Qb3 ?_;intro n11
 refine Zb 6 V V V (Zv (cs':=[_]) V tz_3 V V ?_);intro b6
 refine Zq V V (Zm (cs':=[_]) (i:=0) V ts_3 V V V V V (Yq V) V ?_)
 refine Qg ?_
 refine c_fixl 6 0 V V ?_
 refine Qk ?_
 refine QR ?_
 refine Qb6 ?_
 refine Zb 14 V V V (Yd [0,0] (xs:=[.tmp 12,.tmp 13])  V V V HA by0 (fun v14 M14 h14=>?_))
 refine Qd ?_
 obtain ⟨u2,hu2,rfl⟩:=h14
 refine Qaz ?_
 refine Qan ?_
 refine QC ?_
 refine QbJ ?_
 refine Zb 20 V V V (Yf (fs:=[]) (cs:=[.tmp 3,.tmp 6]) V V V (Zb 21 V V V (Zr (xs:=[.tmp 20]) el_108 V V V V V V (Yq V) (Zb 22 V V V (op_append (i:=3) el_108 V V V V (.seq _ _) by5 ?_)))))
 intro u22
 refine Qan ?_
 refine QC ?_
 refine Zq V V (Zm (i:=2) V ts_108 V V V V V (Yq V) V ?_)
 refine Qz ?_
 refine go_end ?_
 exact out_none V (Yi _) ⟨_,_,V,⟨_,hu2,V⟩,⟨u22,by rw [List.map_append,← hlen];rfl⟩⟩
theorem setB_cells {l:List Is} {k:Nat} {i:Is} (h:l[k]?=some i) (a:Nat):Is.cellss (setB l k a)=(Is.cellss l).set k (i.cells.set 2 (.val (.int .i64 (a:Nat)))):=by
 unfold setB
 rw [h]
 obtain ⟨op,x,b,n,ar,fs,cp⟩:=i
 simp [Is.cellss,List.map_set,Is.cells,Is.op,Is.a,Is.n,Is.ar,Is.fs,Is.cp]
theorem setp_c (b:Nat) (mp ls:AV) (g:Gs) (k a:Nat) (M:Mem) (hM:MkM b mp ls g M) (hk:k<g.ins.length):ACall Try.prog 71 [.val (.int .i64 (a:Nat)),.cptr [.ptr b 0],.cptr [.val (.int .i64 (k:Nat))]] M (fun _ M'=>MkM b mp ls ⟨setB g.ins k a,g.mo⟩ M'):=by
 obtain ⟨u,hu,rfl⟩:=hM
 have hlen:=Is.cellss_len g.ins
 obtain ⟨gb,cap,rfl⟩:=hu.resolve_left (fun h=>by rw [h.2] at hk;simp at hk)
 obtain ⟨i,hi⟩:=Zh (l:=g.ins) (i:=k) hk
 have hs:=setB_cells hi a
 have hc:=Is.cellss_get hi
 obtain ⟨op,x,bb,n,ar,fs,cp⟩:=i
 refine Zc Try.func71 V (by kernel_rfl) V (Yq V) ?_
 refine QJ ?_
 refine Yh [0,1,2,3,4,5,6,7,8] [8] [[],[0],[0,1],[0,1,2],[],[],[0,1,2,3,4,5],[0,1,2,3,4,5,6],[0,1,2,3,4,5,6,7]] tmix V ?_
 refine Qcq ?_
 refine Qbk ?_
 refine Qa8 ?_
 refine Qcq ?_
 refine QD ?_
 refine Zf 10 (some 1) (i:=6) V V V V V (op_index_row (i:=0) (k:=k) V te_30 V V V by7 by11 ⟨V,V⟩) ?_
 refine QA ?_
 refine EOps.w 1 (i:=8) V V V V V (op_store_row1 (i:=0) (k:=k) (f:=2) V ts_3 V V V V V V (hc) by10 ⟨_,V,?_⟩)
 show AGo _ _ _ _ _ _ _
 refine go_end ?_
 exact out_none V (Yi _) ⟨_,.inr ⟨_,_,by rw [setB_len]⟩,by rw [hs];rfl⟩
theorem here_step {g gj:Gs} {ks:List Nat} {j k:Nat} (h:hereF g ks=hereF gj (ks.drop j)) (hk:ks[j]?=some k):hereF g ks=hereF ⟨setB gj.ins k gj.ins.length,max gj.mo gj.ins.length⟩ (ks.drop (j+1)):=by
 rw [h,List.drop_eq_getElem_cons (get_lt hk)]
 rw [List.getElem?_eq_getElem (get_lt hk)] at hk
 rw [Option.some.inj hk,hereF]
theorem here_c (b l:Nat) (mp ls:AV) (g:Gs) (ks:List Nat) (M ML:Mem) (hM:MkM b mp ls g M) (hL:LbM l b ks ML) (hk:∀ k∈ks,k<g.ins.length):ACall Try.prog 40 [.ptr b 0,.ptr l 0] (M++ML) (fun _ M'=>∃ M1,M'=M1++ML∧MkM b mp ls (hereF g ks) M1):=by
 obtain ⟨v,rfl⟩:=hL
 obtain ⟨u0,hu0,rfl⟩:=hM
 refine Zc Try.func40 V (by kernel_rfl) V (Yq V) ?_
 refine QJ ?_
 refine Qr ?_
 refine Qan ?_
 refine QC ?_
 refine QbJ ?_
 refine Zb 10 V V V (Ya V tu_108 V (.own _ _ _) (fun n10=>?_))
 refine Qv ?_
 apply c_loopk (rg [(1,8),(11,25)]) (σ:=Nat × Gs × Value) (fun zz=>match zz with|(j,gj,u)=>[(11,.val (.int .i64 (j:Nat)))]) (fun zz=>match zz with|(j,gj,u)=>[.loc b [.val u,mp,ls,.val (.int .i64 (gj.mo:Nat))],.row 53 7 u (Is.cellss gj.ins),.loc l [.own v 1 (ks.map (pat b))],.own 133 1 v]) (fun zz=>match zz with|(j,gj,u)=>j≤ks.length∧((u=.slice none 0 0∧gj.ins=[])∨∃ gb cap,u=rowv gb gj.ins.length cap)∧gj.ins.length=g.ins.length∧hereF g ks=hereF gj (ks.drop j)) (fun zz=>match zz with|(j,gj,u)=>ks.length - j) ((0,g,u0))
 ·repeat' (first|exact Yt|apply Yr rfl|apply Ys rfl)
 ·exact ⟨Nat.zero_le _,hu0,V,V⟩
 ·exact by2
 ·exact by1
 rintro ⟨j,gj,u⟩ hI
 try dsimp only [List.cons_append,List.nil_append] at hI ⊢
 obtain ⟨h1,h2,h3,h4⟩:=hI
 have hml:(ks.map (pat b)).length=ks.length:=List.length_map _
 have hlen:=Is.cellss_len gj.ins
 refine Qw ?_;intro c12 h12
 refine Qg ?_
 obtain ⟨rfl,g12⟩|⟨rfl,g12⟩:=Za h12
 ·refine Qao ?_
  refine go_end ?_
  have e:hereF g ks=gj:=by rw [h4,List.drop_eq_nil_of_le by11,hereF]
  exact out_none V (Yi _) ⟨_,V,⟨_,by rw [e];exact h2,by rw [e]⟩⟩
 refine Qp ?_
 obtain ⟨k,hkk⟩:=Zh (l:=ks) (i:=j) by11
 have hkl:=hk k (Yu hkk)
 have hcc:(ks.map (pat b))[j]?=some [.clo (.func 71) [] [.cptr [.ptr b 0],.cptr [.val (.int .i64 (k:Nat))]]]:=by simp [hkk,pat]
 have HS:=setp_c b mp ls gj k (Is.cellss gj.ins).length _ ⟨u,h2,rfl⟩ by11
 have hst:=here_step h4 hkk
 refine Qk ?_
 refine Zb 13 V V V (Zj V te_108 V (.own _ _ _) V V (hcc) ?_)
 refine QR ?_
 refine QaK ?_
 refine Qan ?_
 refine Qt ?_
 refine Qb3 ?_;intro n20
 refine Zb 21 V V V (op_callvat [0,0] (xs:=[.tmp 20])  V V V V HS by0 (fun v21 M21 h21=>?_))
 refine Qd ?_
 rw [hlen] at h21
 obtain ⟨u2,hu2,rfl⟩:=h21
 have hlen2:=Is.cellss_len (setB gj.ins k gj.ins.length)
 have hlen3:=setB_len gj.ins k gj.ins.length
 refine Yh [0,1,2,3,4,5,6,7,8,9,10,11,12,13] [13] [[],[],[1],[1,2],[1,2,3],[],[5],[5,6],[5,6,7],[5,6,7,8],[1,2,3,4,5,6,7,8,9],[0,1,2,3,4,5,6,7,8,9,10],[0,1,2,3,4,5,6,7,8,9,10,11],[0,1,2,3,4,5,6,7,8,9,10,11,12]] tmix V ?_
 refine QD ?_
 refine QD ?_
 refine Qbk ?_
 refine Qa8 ?_
 refine QD ?_
 refine Qbk ?_
 refine Qa8 ?_
 refine Qda ?_
 refine Zf 32 (none) (i:=10) V V V V V (op_max V V V ⟨V,V⟩) ?_
 refine Qbk ?_
 refine EOps.w 0 (i:=13) V V V V V (Zm (i:=0) V ts_3 V V V V V (Yq V) V ⟨_,V,?_⟩)
 show AGo _ _ _ _ _ _ _
 refine QT ?_
 exact ⟨(j+1,⟨setB gj.ins k gj.ins.length,max gj.mo gj.ins.length⟩,u2),⟨by show j+1≤ks.length;omega,hu2,by show (setB gj.ins k gj.ins.length).length=_;omega,hst⟩,by show ks.length - (j+1)<ks.length - j;omega,by2,MLe.loc _ (Yo (Ym _) (Yo (Ym _) (Yo (Ym _) (Yo (Le.ieq (by show max ((gj.mo:Nat):Int) ((Is.cellss (setB gj.ins k gj.ins.length)).length:Int)=((max gj.mo gj.ins.length:Nat):Int);omega)) (Yn _))))) (Yl V)⟩
theorem gends_c (i:Is):BCall Try.prog 12 [.agg i.cells] (endOp i.op):=by
 obtain ⟨op,a,bb,n,ar,fs,cp⟩:=i
 show BCall _ _ _ (op=6∨op=7∨op=14∨op=15)
 refine Zc Try.func12 V (by kernel_rfl) V (Yq V) ?_
 refine Qi ?_
 refine Qbn ?_
 refine Qu ?_
 refine Zo 2 (op=6∨op=7∨op=14∨op=15) ?_ _ _ V ?_
 ·skip
  refine Ql ?_
  refine Qx ?_;intro c5 h5
  refine Qa ?_
  obtain ⟨rfl,g5⟩|⟨rfl,g5⟩:=Za h5
  ·skip
   refine Qab ?_;intro c9 h9
   refine Qh ?_
   obtain ⟨rfl,g9⟩|⟨rfl,g9⟩:=Za h9
   ·skip
    refine Qab ?_;intro c14 h14
    refine Qh ?_
    obtain ⟨rfl,g14⟩|⟨rfl,g14⟩:=Za h14
    ·skip
     refine Qab ?_;intro c19 h19
     refine Qm ?_
     refine Yp V ?_ by4 by1
     simp_all;done
    skip
    refine QM ?_
    refine Yp V ?_ by4 by1
    simp_all;done
   skip
   refine Q4 ?_
   refine QM ?_
   refine Yp V ?_ by4 by1
   simp_all;done
  skip
  refine Q4 ?_
  refine Q4 ?_
  refine QM ?_
  refine Yp V ?_ by4 by1
  simp_all;done
 intro c2 h2
 refine Qs ?_
 exact Zd V V (Ym _) by1 ⟨⟨_,h2,V⟩,V⟩
def mget (s:ByteArray):List (ByteArray × AV)→Option AV
 | []=>none
 |(k,v)::l=>if k=s then some v else mget s l
def mput (s:ByteArray) (x:AV):List (ByteArray × AV)→List (ByteArray × AV)
 | []=>[(s,x)]
 |(k,v)::l=>if k=s then (s,x)::l else (k,v)::mput s x l
inductive MRel (F:EH):List (ByteArray × AV)→List MapEntry→Prop
 | nil:MRel F [] []
 | cons {k:ByteArray} {v:AV} {e:MapEntry} {kvs:List (ByteArray × AV)} {es:List MapEntry} (hk:e.key=.string k) (hv:Rel F v e.val) (h:MRel F kvs es):MRel F ((k,v)::kvs) (e::es)
theorem MRel.mono {F F':EH} (hF:Ext F F'):∀ {kvs:List (ByteArray × AV)} {es:List MapEntry},MRel F kvs es→MRel F' kvs es
 | _,_,.nil=>.nil
 | _,_,.cons hk hv h=>.cons hk (hv.mono hF) (MRel.mono hF h)
def MapP (kvs:List (ByteArray × AV)) (F:EH) (o:Obj):Prop:=∃ es clock,o=.map es clock∧MRel F kvs es.toList
theorem MapP.mono {kvs:List (ByteArray × AV)} {F F':EH} {o:Obj} (hF:Ext F F') (h:MapP kvs F o):MapP kvs F' o:=by
 obtain ⟨es,clock,h1,h2⟩:=h
 exact ⟨es,clock,h1,h2.mono hF⟩
abbrev mapR (b:Nat) (kvs:List (ByteArray × AV)):Res:=.objp b (MapP kvs)
theorem same_str (a b:ByteArray):Instr.sameNow .string (.string a) (.string b)=some (decide (b=a)):=by
 show some (a == b)=_
 by_cases h:b=a
 ·rw [(MapKept.bytes_beq a b).2 h.symm,decide_eq_true h]
 have:(a == b)=false:=by
  cases hh:(a == b) with
  | false=>rfl
  | true=>exact absurd ((MapKept.bytes_beq a b).1 hh).symm h
 rw [this,decide_eq_false h]
theorem MRel.find {F:EH} {s:ByteArray}:∀ {kvs:List (ByteArray × AV)} {es:List MapEntry},MRel F kvs es→∀ i:Nat,(mget s kvs=none∧Instr.findNow .string (.string s) es i=some none∧∀ (x:AV) (e:MapEntry),e.key=.string s→Rel F x e.val→MRel F (mput s x kvs) (es++[e])) ∨
    (∃ v j u,mget s kvs=some v∧Instr.findNow .string (.string s) es i=some (some (i+j,u))∧Rel F v u∧(∃ e,es[j]?=some e∧e.key=.string s)∧∀ (x:AV) (y:Value),Rel F x y→MRel F (mput s x kvs) (es.modify j fun e=>{ e with key:=.string s,val:=y }))
 | _,_,.nil,i=>.inl ⟨rfl,rfl,fun x e h1 h2=>.cons h1 h2 .nil⟩
 | _,_,.cons (k:=k) (v:=v) (e:=e) (kvs:=kvs) (es:=es) hk hv h,i=>by
  by_cases q:k=s
  ·refine .inr ⟨v,0,e.val,by rw [mget,if_pos q],?_,hv,⟨e,V,by rw [hk,q]⟩,fun x y hxy=>?_⟩
   ·rw [Instr.findNow,hk,same_str,decide_eq_true q];rfl
   rw [mput,if_pos q]
   exact .cons V hxy h
  obtain ⟨h1,h2,h3⟩|⟨v',j,u,h1,h2,h3,⟨e',h4,h5⟩,h6⟩:=MRel.find (s:=s) h (i+1)
  ·refine .inl ⟨by rw [mget,if_neg q];exact h1,?_,fun x e' h4 h5=>?_⟩
   ·rw [Instr.findNow,hk,same_str,decide_eq_false q];exact h2
   rw [mput,if_neg q];exact .cons hk hv (h3 x e' h4 h5)
  refine .inr ⟨v',j+1,u,by rw [mget,if_neg q];exact h1,?_,h3,⟨e',by simpa using h4,h5⟩,fun x y hxy=>?_⟩
  ·rw [Instr.findNow,hk,same_str,decide_eq_false q]
   show Instr.findNow .string (.string s) es (i+1)=_
   rw [h2,show i+1+j=i+(j+1) by omega]
  rw [mput,if_neg q]
  exact .cons hk hv (h6 x y hxy)
section
variable {P:Program} {o:Oper} {al:Sl} {M:Mem} {K:AV→Mem→Prop}
theorem op_makeMap {t:TypeId} (ho:o.op=.makeMap t none) (q:∀ b,K (.val (.map (some b))) (mapR b []::M)):OpT P o al M K:=by
 intro n B F Mf a w hi hs ro
 have e:(execOp a.eval o).run P w=.ok (.value (.map (some w.heap.size))) (w.alloc (.map #[] 0)):=by
  simp only [execOp,ho,Option.map_none]
  rfl
 exact wpR_value e ⟨_,_,_,F,V,q w.heap.size,.val _,Ext.refl F,hi.newObj (.map #[] 0) V _ (fun F' _=>⟨#[],0,V,.nil⟩),alloc_below _ hi.base⟩
theorem Inv.mapAt {B:Nat} {F:EH} {Mf:Mem} {w:World} (hi:Inv B F (M++Mf) w) {i b:Nat} {kvs:List (ByteArray × AV)} (hm:M[i]?=some (mapR b kvs)):∃ es clock,w.heap[b]?=some (.map es clock)∧MRel F kvs es.toList:=by
 obtain ⟨_,_,o,h3,_,h5⟩:=hi.ok (mapR b kvs) (List.mem_append_left _ (Yu hm))
 obtain ⟨es,clock,rfl,h6⟩:=h5 F (Ext.refl F)
 exact ⟨es,clock,h3,h6⟩
theorem op_lookup {x y:Operand} {t kt et:TypeId} {z:Value} {i b:Nat} {s:ByteArray} {kvs:List (ByteArray × AV)} (ho:o.op=.lookup t x y false) (ht:P.underlying t=some (.map kt et)) (hk:P.underlying kt=some .string) (hz:tyZero P et=some z) (hx:al.ev x=some (.val (.map (some b)))) (hy:al.ev y=some (.val (.string s))) (hm:M[i]?=some (mapR b kvs)) (q:K ((mget s kvs).getD (.val z)) M):OpT P o al M K :=
 OpT.plain fun n B F Mf a w hi hs=>by
  have hex:=Zw hs hx
  have hey:=Zw hs hy
  obtain ⟨es,clock,hb,hr⟩:=hi.mapAt hm
  have hzr:=tyZero_run hz w
  obtain ⟨h1,h2,_⟩|⟨v,j,u,h1,h2,h3,_,_⟩:=hr.find (s:=s) 0
  ·refine ⟨z,_,?_,q,?_⟩
   ·simp [execOp,ho,hex,hey,Instr.lookup,run_underlying ht,MapKept.run_getObj_map hb,MapKept.run_checkKey hk (show MapKept.IsKey .string (.string s) from trivial),MapKept.run_findKey hk h2,hzr,Result.andThen]
   rw [h1];exact .val z
  refine ⟨u,_,?_,q,?_⟩
  ·simp [execOp,ho,hex,hey,Instr.lookup,run_underlying ht,MapKept.run_getObj_map hb,MapKept.run_checkKey hk (show MapKept.IsKey .string (.string s) from trivial),MapKept.run_findKey hk h2,Result.andThen]
  rw [h1];exact h3
theorem op_mapput {x y z:Operand} {t kt et:TypeId} {i b:Nat} {s:ByteArray} {v:AV} {kvs:List (ByteArray × AV)} (ho:o.op=.mapUpdate t x y z) (ht:P.underlying t=some (.map kt et)) (hk:P.underlying kt=some .string) (hx:al.ev x=some (.val (.map (some b)))) (hy:al.ev y=some (.val (.string s))) (hz:al.ev z=some v) (hm:M[i]?=some (mapR b kvs)) (q:K (.val undef) (M.set i (mapR b (mput s v kvs)))):OpT P o al M K:=by
 intro n B F Mf a w hi hs ro
 have hex:=Zw hs hx
 have hey:=Zw hs hy
 have hez:=hs.ev hz
 obtain ⟨es,clock,hb,hr⟩:=hi.mapAt hm
 have hperm:(M++Mf).Perm (mapR b kvs::(M.eraseIdx i++Mf)):=by
  have:=(perm_at hm).append_right Mf
  rwa [List.cons_append] at this
 have hi2:=hi.perm hperm
 have hback:∀ r:Res,(r::(M.eraseIdx i++Mf)).Perm (M.set i r++Mf):=fun r=>by
  have h1:=perm_at (M:=M.set i r) (i:=i) (r:=r) (by rw [List.getElem?_set_self (get_lt hm)])
  have h2:(M.set i r).eraseIdx i=M.eraseIdx i:=List.eraseIdx_set_eq
  rw [h2] at h1
  have:=h1.symm.append_right Mf
  rwa [List.cons_append] at this
 obtain ⟨_,h2,h3⟩|⟨v',j,u,_,h2,_,⟨e,h4,h5⟩,h6⟩:=hr.find (s:=s) 0
 ·have hrun:(execOp a.eval o).run P w=.ok .skip (w.putObj b (.map (es.push { key:=.string s,val:=a.eval z,born:=clock }) (clock+1))):=by
   simp [execOp,ho,hex,hey,Instr.mapUpdate,run_underlying ht,MapKept.run_getObj_map hb,MapKept.run_checkKey hk (show MapKept.IsKey .string (.string s) from trivial),MapKept.run_findKey hk h2,MapKept.run_setObj_map _ hb,Result.andThen,World.putObj]
  obtain ⟨_,k2,k3⟩:=hi2.objPut (.map (es.push { key:=.string s,val:=a.eval z,born:=clock }) (clock+1))
  have k4:=k3 rfl (MapP (mput s v kvs)) (fun F' hF=>⟨_,_,rfl,by
   rw [Array.toList_push]
   exact (h3 v { key:=.string s,val:=a.eval z,born:=clock } V hez).mono hF⟩)
  exact wpR_skip hrun ⟨undef,.val undef,_,F,V,q,.val _,Ext.refl F,k4.perm (hback _),k2⟩
 have hj:j<es.size:=by
  have:=get_lt h4
  simpa using this
 have hkey:((es[j]?).map (·.key)).getD (.string s)=.string s:=by
  rw [← Array.getElem?_toList,h4]
  exact h5
 rw [Nat.zero_add] at h2
 have hrun:(execOp a.eval o).run P w=.ok .skip (w.putObj b (.map (es.modify j fun e=>{ e with key:=.string s,val:=a.eval z }) clock)):=by
  simp only [execOp,ho,hex,hey]
  simp [Instr.mapUpdate,run_underlying ht,MapKept.run_getObj_map hb,MapKept.run_checkKey hk (show MapKept.IsKey .string (.string s) from trivial),MapKept.run_findKey hk h2,hkey,MapKept.run_keyThatStays (show MapKept.IsKey .string (.string s) from trivial),MapKept.run_setObj_map _ hb,Result.andThen,World.putObj]
 obtain ⟨_,k2,k3⟩:=hi2.objPut (.map (es.modify j fun e=>{ e with key:=.string s,val:=a.eval z }) clock)
 have k4:=k3 rfl (MapP (mput s v kvs)) (fun F' hF=>⟨_,_,rfl,by
  rw [Array.toList_modify]
  exact (h6 v (a.eval z) hez).mono hF⟩)
 exact wpR_skip hrun ⟨undef,.val undef,_,F,V,q,.val _,Ext.refl F,k4.perm (hback _),k2⟩
end
theorem tm_59:Try.prog.underlying 59=some (.map 9 3):=by kernel_rfl
theorem op_lookupv {P:Program} {al:Sl} {M:Mem} {K:AV→Mem→Prop} {o:Oper} {x y:Operand} {t kt et:TypeId} {z:Value} {v:AV} {i b:Nat} {s:ByteArray} {kvs:List (ByteArray × AV)} (ho:o.op=.lookup t x y false) (ht:P.underlying t=some (.map kt et)) (hk:P.underlying kt=some .string) (hz:tyZero P et=some z) (hx:al.ev x=some (.val (.map (some b)))) (hy:al.ev y=some (.val (.string s))) (hm:M[i]?=some (mapR b kvs)) (hv:(mget s kvs).getD (.val z)=v) (q:K v M):OpT P o al M K :=
 op_lookup ho ht hk hz hx hy hm (by rw [hv];exact q)
def MapOk (tx:List ByteArray) (kvs:List (ByteArray × AV)):Prop:=∀ s,(mget s kvs).getD (.val (.int .i64 0))=.val (.int .i64 (textI tx s))
theorem plain_c (b bt:Nat) (u:Value) (ls mo:AV) (tx:List ByteArray) (kvs:List (ByteArray × AV)) (hkv:MapOk tx kvs) (k t n:Int) (s:ByteArray) (ar:List Ato) (fs:List Int) (cp:List (List Ato)) (d:De) (arms:List (List St)) :
    ACall Try.prog 25 [.ptr b 0,.agg (St.mk k t n s ar fs cp d arms).cells] [.loc b [.val u,.val (.map (some bt)),ls,mo],mapR bt kvs] (fun v M'=>v=.agg (plainF tx k t n s ar fs cp).cells∧M'=[.loc b [.val u,.val (.map (some bt)),ls,mo],mapR bt kvs]):=by
 obtain ⟨dk,da,dp,dcs,des⟩:=d
 have hs:=hkv s
 obtain ⟨r,hP⟩:∃ r,plainF tx k t n s ar fs cp=r:=⟨_,rfl⟩
 rw [hP]
 unfold plainF at hP
 generalize textI tx s=ti at hs hP
 simp only [St.cells,De.cells,List.cons_append,List.nil_append]
 refine Zc Try.func25 V (by kernel_rfl) V (Yq V) ?_
 refine Qi ?_
 refine QbK ?_
 refine Qcj ?_;intro b4
 refine Qd ?_
 refine Qba ?_
 refine Ql ?_
 refine Zb 10 V V V (Zn (ns:=[1,4]) (xs:=[.tmp 7,.tmp 9]) V tz_53 V tfl_53 V V V V ?_)
 refine Qcj ?_;intro b5
 refine QcN ?_
 refine Qg ?_
 refine Qba ?_
 refine Qd ?_
 refine QN ?_
 refine QK ?_;intro c15 h15
 refine Qb ?_
 obtain ⟨rfl,g15⟩|⟨rfl,g15⟩:=Za h15
 ·refine QI ?_;intro c18 h18
  refine Qb ?_
  obtain ⟨rfl,g18⟩|⟨rfl,g18⟩:=Za h18
  ·refine QI ?_;intro c29 h29
   refine Qb ?_
   obtain ⟨rfl,g29⟩|⟨rfl,g29⟩:=Za h29
   ·refine QI ?_;intro c35 h35
    refine Qb ?_
    obtain ⟨rfl,g35⟩|⟨rfl,g35⟩:=Za h35
    ·refine QI ?_;intro c44 h44
     refine Qb ?_
     obtain ⟨rfl,g44⟩|⟨rfl,g44⟩:=Za h44
     ·refine QI ?_;intro c47 h47
      refine Qb ?_
      obtain ⟨rfl,g47⟩|⟨rfl,g47⟩:=Za h47
      ·refine QI ?_;intro c50 h50
       refine Qb ?_
       obtain ⟨rfl,g50⟩|⟨rfl,g50⟩:=Za h50
       ·refine QI ?_;intro c53 h53
        refine Qb ?_
        obtain ⟨rfl,g53⟩|⟨rfl,g53⟩:=Za h53
        ·refine QI ?_;intro c59 h59
         refine Qb ?_
         obtain ⟨rfl,g59⟩|⟨rfl,g59⟩:=Za h59
         ·refine Qbd ?_
          refine QC ?_
          refine Qb4 ?_
          refine Qz ?_
          refine Qa2 ?_
          first
          |(rw [if_pos g15] at hP;subst hP;exact Ze (R:=fun v M'=>_) (i:=1) rfl rfl rfl Zi rfl by3 (Yk _ (Yk _ (Yi _))) ⟨rfl,rfl⟩)
          |(rw [if_neg g15,if_pos g18] at hP;subst hP;exact Ze (R:=fun v M'=>_) (i:=1) rfl rfl rfl Zi rfl by3 (Yk _ (Yk _ (Yi _))) ⟨rfl,rfl⟩)
          |(rw [if_neg g15,if_neg g18,if_pos g29] at hP;subst hP;exact Ze (R:=fun v M'=>_) (i:=1) rfl rfl rfl Zi rfl by3 (Yk _ (Yk _ (Yi _))) ⟨rfl,rfl⟩)
          |(rw [if_neg g15,if_neg g18,if_neg g29,if_pos g35] at hP;subst hP;exact Ze (R:=fun v M'=>_) (i:=1) rfl rfl rfl Zi rfl by3 (Yk _ (Yk _ (Yi _))) ⟨rfl,rfl⟩)
          |(rw [if_neg g15,if_neg g18,if_neg g29,if_neg g35,if_pos g44] at hP;subst hP;exact Ze (R:=fun v M'=>_) (i:=1) rfl rfl rfl Zi rfl by3 (Yk _ (Yk _ (Yi _))) ⟨rfl,rfl⟩)
          |(rw [if_neg g15,if_neg g18,if_neg g29,if_neg g35,if_neg g44,if_pos g47] at hP;subst hP;exact Ze (R:=fun v M'=>_) (i:=1) rfl rfl rfl Zi rfl by3 (Yk _ (Yk _ (Yi _))) ⟨rfl,rfl⟩)
          |(rw [if_neg g15,if_neg g18,if_neg g29,if_neg g35,if_neg g44,if_neg g47,if_pos g50] at hP;subst hP;exact Ze (R:=fun v M'=>_) (i:=1) rfl rfl rfl Zi rfl by3 (Yk _ (Yk _ (Yi _))) ⟨rfl,rfl⟩)
          |(rw [if_neg g15,if_neg g18,if_neg g29,if_neg g35,if_neg g44,if_neg g47,if_neg g50,if_pos g53] at hP;subst hP;exact Ze (R:=fun v M'=>_) (i:=1) rfl rfl rfl Zi rfl by3 (Yk _ (Yk _ (Yi _))) ⟨rfl,rfl⟩)
          |(rw [if_neg g15,if_neg g18,if_neg g29,if_neg g35,if_neg g44,if_neg g47,if_neg g50,if_neg g53,if_pos g59] at hP;subst hP;exact Ze (R:=fun v M'=>_) (i:=1) rfl rfl rfl Zi rfl by3 (Yk _ (Yk _ (Yi _))) ⟨rfl,rfl⟩)
          |(rw [if_neg g15,if_neg g18,if_neg g29,if_neg g35,if_neg g44,if_neg g47,if_neg g50,if_neg g53,if_neg g59] at hP;subst hP;exact Ze (R:=fun v M'=>_) (i:=1) rfl rfl rfl Zi rfl by3 (Yk _ (Yk _ (Yi _))) ⟨rfl,rfl⟩)
         refine QO ?_
         refine QcO ?_
         refine QaF ?_
         refine QA ?_
         refine QbM ?_
         refine QA ?_
         refine QcP ?_
         show AGo _ _ _ _ _ _ _
         refine Qa2 ?_
         first
         |(rw [if_pos g15] at hP;subst hP;exact Ze (R:=fun v M'=>_) (i:=1) rfl rfl rfl Zi rfl by3 (Yk _ (Yk _ (Yi _))) ⟨rfl,rfl⟩)
         |(rw [if_neg g15,if_pos g18] at hP;subst hP;exact Ze (R:=fun v M'=>_) (i:=1) rfl rfl rfl Zi rfl by3 (Yk _ (Yk _ (Yi _))) ⟨rfl,rfl⟩)
         |(rw [if_neg g15,if_neg g18,if_pos g29] at hP;subst hP;exact Ze (R:=fun v M'=>_) (i:=1) rfl rfl rfl Zi rfl by3 (Yk _ (Yk _ (Yi _))) ⟨rfl,rfl⟩)
         |(rw [if_neg g15,if_neg g18,if_neg g29,if_pos g35] at hP;subst hP;exact Ze (R:=fun v M'=>_) (i:=1) rfl rfl rfl Zi rfl by3 (Yk _ (Yk _ (Yi _))) ⟨rfl,rfl⟩)
         |(rw [if_neg g15,if_neg g18,if_neg g29,if_neg g35,if_pos g44] at hP;subst hP;exact Ze (R:=fun v M'=>_) (i:=1) rfl rfl rfl Zi rfl by3 (Yk _ (Yk _ (Yi _))) ⟨rfl,rfl⟩)
         |(rw [if_neg g15,if_neg g18,if_neg g29,if_neg g35,if_neg g44,if_pos g47] at hP;subst hP;exact Ze (R:=fun v M'=>_) (i:=1) rfl rfl rfl Zi rfl by3 (Yk _ (Yk _ (Yi _))) ⟨rfl,rfl⟩)
         |(rw [if_neg g15,if_neg g18,if_neg g29,if_neg g35,if_neg g44,if_neg g47,if_pos g50] at hP;subst hP;exact Ze (R:=fun v M'=>_) (i:=1) rfl rfl rfl Zi rfl by3 (Yk _ (Yk _ (Yi _))) ⟨rfl,rfl⟩)
         |(rw [if_neg g15,if_neg g18,if_neg g29,if_neg g35,if_neg g44,if_neg g47,if_neg g50,if_pos g53] at hP;subst hP;exact Ze (R:=fun v M'=>_) (i:=1) rfl rfl rfl Zi rfl by3 (Yk _ (Yk _ (Yi _))) ⟨rfl,rfl⟩)
         |(rw [if_neg g15,if_neg g18,if_neg g29,if_neg g35,if_neg g44,if_neg g47,if_neg g50,if_neg g53,if_pos g59] at hP;subst hP;exact Ze (R:=fun v M'=>_) (i:=1) rfl rfl rfl Zi rfl by3 (Yk _ (Yk _ (Yi _))) ⟨rfl,rfl⟩)
         |(rw [if_neg g15,if_neg g18,if_neg g29,if_neg g35,if_neg g44,if_neg g47,if_neg g50,if_neg g53,if_neg g59] at hP;subst hP;exact Ze (R:=fun v M'=>_) (i:=1) rfl rfl rfl Zi rfl by3 (Yk _ (Yk _ (Yi _))) ⟨rfl,rfl⟩)
        refine QO ?_
        refine QcO ?_
        refine QaF ?_
        refine QA ?_
        refine QbM ?_
        refine QA ?_
        refine QcP ?_
        show AGo _ _ _ _ _ _ _
        refine Qa2 ?_
        first
        |(rw [if_pos g15] at hP;subst hP;exact Ze (R:=fun v M'=>_) (i:=1) rfl rfl rfl Zi rfl by3 (Yk _ (Yk _ (Yi _))) ⟨rfl,rfl⟩)
        |(rw [if_neg g15,if_pos g18] at hP;subst hP;exact Ze (R:=fun v M'=>_) (i:=1) rfl rfl rfl Zi rfl by3 (Yk _ (Yk _ (Yi _))) ⟨rfl,rfl⟩)
        |(rw [if_neg g15,if_neg g18,if_pos g29] at hP;subst hP;exact Ze (R:=fun v M'=>_) (i:=1) rfl rfl rfl Zi rfl by3 (Yk _ (Yk _ (Yi _))) ⟨rfl,rfl⟩)
        |(rw [if_neg g15,if_neg g18,if_neg g29,if_pos g35] at hP;subst hP;exact Ze (R:=fun v M'=>_) (i:=1) rfl rfl rfl Zi rfl by3 (Yk _ (Yk _ (Yi _))) ⟨rfl,rfl⟩)
        |(rw [if_neg g15,if_neg g18,if_neg g29,if_neg g35,if_pos g44] at hP;subst hP;exact Ze (R:=fun v M'=>_) (i:=1) rfl rfl rfl Zi rfl by3 (Yk _ (Yk _ (Yi _))) ⟨rfl,rfl⟩)
        |(rw [if_neg g15,if_neg g18,if_neg g29,if_neg g35,if_neg g44,if_pos g47] at hP;subst hP;exact Ze (R:=fun v M'=>_) (i:=1) rfl rfl rfl Zi rfl by3 (Yk _ (Yk _ (Yi _))) ⟨rfl,rfl⟩)
        |(rw [if_neg g15,if_neg g18,if_neg g29,if_neg g35,if_neg g44,if_neg g47,if_pos g50] at hP;subst hP;exact Ze (R:=fun v M'=>_) (i:=1) rfl rfl rfl Zi rfl by3 (Yk _ (Yk _ (Yi _))) ⟨rfl,rfl⟩)
        |(rw [if_neg g15,if_neg g18,if_neg g29,if_neg g35,if_neg g44,if_neg g47,if_neg g50,if_pos g53] at hP;subst hP;exact Ze (R:=fun v M'=>_) (i:=1) rfl rfl rfl Zi rfl by3 (Yk _ (Yk _ (Yi _))) ⟨rfl,rfl⟩)
        |(rw [if_neg g15,if_neg g18,if_neg g29,if_neg g35,if_neg g44,if_neg g47,if_neg g50,if_neg g53,if_pos g59] at hP;subst hP;exact Ze (R:=fun v M'=>_) (i:=1) rfl rfl rfl Zi rfl by3 (Yk _ (Yk _ (Yi _))) ⟨rfl,rfl⟩)
        |(rw [if_neg g15,if_neg g18,if_neg g29,if_neg g35,if_neg g44,if_neg g47,if_neg g50,if_neg g53,if_neg g59] at hP;subst hP;exact Ze (R:=fun v M'=>_) (i:=1) rfl rfl rfl Zi rfl by3 (Yk _ (Yk _ (Yi _))) ⟨rfl,rfl⟩)
       refine QaT ?_
       refine QC ?_
       refine Qb4 ?_
       refine Qz ?_
       refine Qa2 ?_
       first
       |(rw [if_pos g15] at hP;subst hP;exact Ze (R:=fun v M'=>_) (i:=1) rfl rfl rfl Zi rfl by3 (Yk _ (Yk _ (Yi _))) ⟨rfl,rfl⟩)
       |(rw [if_neg g15,if_pos g18] at hP;subst hP;exact Ze (R:=fun v M'=>_) (i:=1) rfl rfl rfl Zi rfl by3 (Yk _ (Yk _ (Yi _))) ⟨rfl,rfl⟩)
       |(rw [if_neg g15,if_neg g18,if_pos g29] at hP;subst hP;exact Ze (R:=fun v M'=>_) (i:=1) rfl rfl rfl Zi rfl by3 (Yk _ (Yk _ (Yi _))) ⟨rfl,rfl⟩)
       |(rw [if_neg g15,if_neg g18,if_neg g29,if_pos g35] at hP;subst hP;exact Ze (R:=fun v M'=>_) (i:=1) rfl rfl rfl Zi rfl by3 (Yk _ (Yk _ (Yi _))) ⟨rfl,rfl⟩)
       |(rw [if_neg g15,if_neg g18,if_neg g29,if_neg g35,if_pos g44] at hP;subst hP;exact Ze (R:=fun v M'=>_) (i:=1) rfl rfl rfl Zi rfl by3 (Yk _ (Yk _ (Yi _))) ⟨rfl,rfl⟩)
       |(rw [if_neg g15,if_neg g18,if_neg g29,if_neg g35,if_neg g44,if_pos g47] at hP;subst hP;exact Ze (R:=fun v M'=>_) (i:=1) rfl rfl rfl Zi rfl by3 (Yk _ (Yk _ (Yi _))) ⟨rfl,rfl⟩)
       |(rw [if_neg g15,if_neg g18,if_neg g29,if_neg g35,if_neg g44,if_neg g47,if_pos g50] at hP;subst hP;exact Ze (R:=fun v M'=>_) (i:=1) rfl rfl rfl Zi rfl by3 (Yk _ (Yk _ (Yi _))) ⟨rfl,rfl⟩)
       |(rw [if_neg g15,if_neg g18,if_neg g29,if_neg g35,if_neg g44,if_neg g47,if_neg g50,if_pos g53] at hP;subst hP;exact Ze (R:=fun v M'=>_) (i:=1) rfl rfl rfl Zi rfl by3 (Yk _ (Yk _ (Yi _))) ⟨rfl,rfl⟩)
       |(rw [if_neg g15,if_neg g18,if_neg g29,if_neg g35,if_neg g44,if_neg g47,if_neg g50,if_neg g53,if_pos g59] at hP;subst hP;exact Ze (R:=fun v M'=>_) (i:=1) rfl rfl rfl Zi rfl by3 (Yk _ (Yk _ (Yi _))) ⟨rfl,rfl⟩)
       |(rw [if_neg g15,if_neg g18,if_neg g29,if_neg g35,if_neg g44,if_neg g47,if_neg g50,if_neg g53,if_neg g59] at hP;subst hP;exact Ze (R:=fun v M'=>_) (i:=1) rfl rfl rfl Zi rfl by3 (Yk _ (Yk _ (Yi _))) ⟨rfl,rfl⟩)
      refine QaT ?_
      refine QC ?_
      refine Qb4 ?_
      refine Qz ?_
      refine Qa2 ?_
      first
      |(rw [if_pos g15] at hP;subst hP;exact Ze (R:=fun v M'=>_) (i:=1) rfl rfl rfl Zi rfl by3 (Yk _ (Yk _ (Yi _))) ⟨rfl,rfl⟩)
      |(rw [if_neg g15,if_pos g18] at hP;subst hP;exact Ze (R:=fun v M'=>_) (i:=1) rfl rfl rfl Zi rfl by3 (Yk _ (Yk _ (Yi _))) ⟨rfl,rfl⟩)
      |(rw [if_neg g15,if_neg g18,if_pos g29] at hP;subst hP;exact Ze (R:=fun v M'=>_) (i:=1) rfl rfl rfl Zi rfl by3 (Yk _ (Yk _ (Yi _))) ⟨rfl,rfl⟩)
      |(rw [if_neg g15,if_neg g18,if_neg g29,if_pos g35] at hP;subst hP;exact Ze (R:=fun v M'=>_) (i:=1) rfl rfl rfl Zi rfl by3 (Yk _ (Yk _ (Yi _))) ⟨rfl,rfl⟩)
      |(rw [if_neg g15,if_neg g18,if_neg g29,if_neg g35,if_pos g44] at hP;subst hP;exact Ze (R:=fun v M'=>_) (i:=1) rfl rfl rfl Zi rfl by3 (Yk _ (Yk _ (Yi _))) ⟨rfl,rfl⟩)
      |(rw [if_neg g15,if_neg g18,if_neg g29,if_neg g35,if_neg g44,if_pos g47] at hP;subst hP;exact Ze (R:=fun v M'=>_) (i:=1) rfl rfl rfl Zi rfl by3 (Yk _ (Yk _ (Yi _))) ⟨rfl,rfl⟩)
      |(rw [if_neg g15,if_neg g18,if_neg g29,if_neg g35,if_neg g44,if_neg g47,if_pos g50] at hP;subst hP;exact Ze (R:=fun v M'=>_) (i:=1) rfl rfl rfl Zi rfl by3 (Yk _ (Yk _ (Yi _))) ⟨rfl,rfl⟩)
      |(rw [if_neg g15,if_neg g18,if_neg g29,if_neg g35,if_neg g44,if_neg g47,if_neg g50,if_pos g53] at hP;subst hP;exact Ze (R:=fun v M'=>_) (i:=1) rfl rfl rfl Zi rfl by3 (Yk _ (Yk _ (Yi _))) ⟨rfl,rfl⟩)
      |(rw [if_neg g15,if_neg g18,if_neg g29,if_neg g35,if_neg g44,if_neg g47,if_neg g50,if_neg g53,if_pos g59] at hP;subst hP;exact Ze (R:=fun v M'=>_) (i:=1) rfl rfl rfl Zi rfl by3 (Yk _ (Yk _ (Yi _))) ⟨rfl,rfl⟩)
      |(rw [if_neg g15,if_neg g18,if_neg g29,if_neg g35,if_neg g44,if_neg g47,if_neg g50,if_neg g53,if_neg g59] at hP;subst hP;exact Ze (R:=fun v M'=>_) (i:=1) rfl rfl rfl Zi rfl by3 (Yk _ (Yk _ (Yi _))) ⟨rfl,rfl⟩)
     refine QaT ?_
     refine QC ?_
     refine Qb4 ?_
     refine Qz ?_
     refine Qa2 ?_
     first
     |(rw [if_pos g15] at hP;subst hP;exact Ze (R:=fun v M'=>_) (i:=1) rfl rfl rfl Zi rfl by3 (Yk _ (Yk _ (Yi _))) ⟨rfl,rfl⟩)
     |(rw [if_neg g15,if_pos g18] at hP;subst hP;exact Ze (R:=fun v M'=>_) (i:=1) rfl rfl rfl Zi rfl by3 (Yk _ (Yk _ (Yi _))) ⟨rfl,rfl⟩)
     |(rw [if_neg g15,if_neg g18,if_pos g29] at hP;subst hP;exact Ze (R:=fun v M'=>_) (i:=1) rfl rfl rfl Zi rfl by3 (Yk _ (Yk _ (Yi _))) ⟨rfl,rfl⟩)
     |(rw [if_neg g15,if_neg g18,if_neg g29,if_pos g35] at hP;subst hP;exact Ze (R:=fun v M'=>_) (i:=1) rfl rfl rfl Zi rfl by3 (Yk _ (Yk _ (Yi _))) ⟨rfl,rfl⟩)
     |(rw [if_neg g15,if_neg g18,if_neg g29,if_neg g35,if_pos g44] at hP;subst hP;exact Ze (R:=fun v M'=>_) (i:=1) rfl rfl rfl Zi rfl by3 (Yk _ (Yk _ (Yi _))) ⟨rfl,rfl⟩)
     |(rw [if_neg g15,if_neg g18,if_neg g29,if_neg g35,if_neg g44,if_pos g47] at hP;subst hP;exact Ze (R:=fun v M'=>_) (i:=1) rfl rfl rfl Zi rfl by3 (Yk _ (Yk _ (Yi _))) ⟨rfl,rfl⟩)
     |(rw [if_neg g15,if_neg g18,if_neg g29,if_neg g35,if_neg g44,if_neg g47,if_pos g50] at hP;subst hP;exact Ze (R:=fun v M'=>_) (i:=1) rfl rfl rfl Zi rfl by3 (Yk _ (Yk _ (Yi _))) ⟨rfl,rfl⟩)
     |(rw [if_neg g15,if_neg g18,if_neg g29,if_neg g35,if_neg g44,if_neg g47,if_neg g50,if_pos g53] at hP;subst hP;exact Ze (R:=fun v M'=>_) (i:=1) rfl rfl rfl Zi rfl by3 (Yk _ (Yk _ (Yi _))) ⟨rfl,rfl⟩)
     |(rw [if_neg g15,if_neg g18,if_neg g29,if_neg g35,if_neg g44,if_neg g47,if_neg g50,if_neg g53,if_pos g59] at hP;subst hP;exact Ze (R:=fun v M'=>_) (i:=1) rfl rfl rfl Zi rfl by3 (Yk _ (Yk _ (Yi _))) ⟨rfl,rfl⟩)
     |(rw [if_neg g15,if_neg g18,if_neg g29,if_neg g35,if_neg g44,if_neg g47,if_neg g50,if_neg g53,if_neg g59] at hP;subst hP;exact Ze (R:=fun v M'=>_) (i:=1) rfl rfl rfl Zi rfl by3 (Yk _ (Yk _ (Yi _))) ⟨rfl,rfl⟩)
    refine QO ?_
    refine Yh [0,1,2,3,4,5,6,7,8,9] [5,7,9] [[],[0],[],[2],[],[4],[0,1,4,5],[0,1,4,5,6],[0,1,2,3,4,5,6,7],[0,1,2,3,4,5,6,7,8]] tmix V ?_
    refine QaF ?_
    refine QaF ?_
    refine QA ?_
    refine QbM ?_
    refine QA ?_
    refine EOps.w 0 (i:=7) V V V V V (Zm (cs':=[_,_,_,_,_,_,_]) (i:=0) V ts_43 V V V V V (Yq V) V ⟨_,V,?_⟩)
    refine QA ?_
    refine EOps.w 0 (i:=9) V V V V V (Zm (cs':=[_,_,_,_,_,_,_]) (i:=0) V ts_44 V V V V V (Yq V) V ⟨_,V,?_⟩)
    show AGo _ _ _ _ _ _ _
    refine Qa2 ?_
    first
    |(rw [if_pos g15] at hP;subst hP;exact Ze (R:=fun v M'=>_) (i:=1) rfl rfl rfl Zi rfl by3 (Yk _ (Yk _ (Yi _))) ⟨rfl,rfl⟩)
    |(rw [if_neg g15,if_pos g18] at hP;subst hP;exact Ze (R:=fun v M'=>_) (i:=1) rfl rfl rfl Zi rfl by3 (Yk _ (Yk _ (Yi _))) ⟨rfl,rfl⟩)
    |(rw [if_neg g15,if_neg g18,if_pos g29] at hP;subst hP;exact Ze (R:=fun v M'=>_) (i:=1) rfl rfl rfl Zi rfl by3 (Yk _ (Yk _ (Yi _))) ⟨rfl,rfl⟩)
    |(rw [if_neg g15,if_neg g18,if_neg g29,if_pos g35] at hP;subst hP;exact Ze (R:=fun v M'=>_) (i:=1) rfl rfl rfl Zi rfl by3 (Yk _ (Yk _ (Yi _))) ⟨rfl,rfl⟩)
    |(rw [if_neg g15,if_neg g18,if_neg g29,if_neg g35,if_pos g44] at hP;subst hP;exact Ze (R:=fun v M'=>_) (i:=1) rfl rfl rfl Zi rfl by3 (Yk _ (Yk _ (Yi _))) ⟨rfl,rfl⟩)
    |(rw [if_neg g15,if_neg g18,if_neg g29,if_neg g35,if_neg g44,if_pos g47] at hP;subst hP;exact Ze (R:=fun v M'=>_) (i:=1) rfl rfl rfl Zi rfl by3 (Yk _ (Yk _ (Yi _))) ⟨rfl,rfl⟩)
    |(rw [if_neg g15,if_neg g18,if_neg g29,if_neg g35,if_neg g44,if_neg g47,if_pos g50] at hP;subst hP;exact Ze (R:=fun v M'=>_) (i:=1) rfl rfl rfl Zi rfl by3 (Yk _ (Yk _ (Yi _))) ⟨rfl,rfl⟩)
    |(rw [if_neg g15,if_neg g18,if_neg g29,if_neg g35,if_neg g44,if_neg g47,if_neg g50,if_pos g53] at hP;subst hP;exact Ze (R:=fun v M'=>_) (i:=1) rfl rfl rfl Zi rfl by3 (Yk _ (Yk _ (Yi _))) ⟨rfl,rfl⟩)
    |(rw [if_neg g15,if_neg g18,if_neg g29,if_neg g35,if_neg g44,if_neg g47,if_neg g50,if_neg g53,if_pos g59] at hP;subst hP;exact Ze (R:=fun v M'=>_) (i:=1) rfl rfl rfl Zi rfl by3 (Yk _ (Yk _ (Yi _))) ⟨rfl,rfl⟩)
    |(rw [if_neg g15,if_neg g18,if_neg g29,if_neg g35,if_neg g44,if_neg g47,if_neg g50,if_neg g53,if_neg g59] at hP;subst hP;exact Ze (R:=fun v M'=>_) (i:=1) rfl rfl rfl Zi rfl by3 (Yk _ (Yk _ (Yi _))) ⟨rfl,rfl⟩)
   refine QO ?_
   refine QcO ?_
   refine QaF ?_
   refine QA ?_
   refine QbM ?_
   refine QA ?_
   refine QcP ?_
   show AGo _ _ _ _ _ _ _
   refine Qa2 ?_
   first
   |(rw [if_pos g15] at hP;subst hP;exact Ze (R:=fun v M'=>_) (i:=1) rfl rfl rfl Zi rfl by3 (Yk _ (Yk _ (Yi _))) ⟨rfl,rfl⟩)
   |(rw [if_neg g15,if_pos g18] at hP;subst hP;exact Ze (R:=fun v M'=>_) (i:=1) rfl rfl rfl Zi rfl by3 (Yk _ (Yk _ (Yi _))) ⟨rfl,rfl⟩)
   |(rw [if_neg g15,if_neg g18,if_pos g29] at hP;subst hP;exact Ze (R:=fun v M'=>_) (i:=1) rfl rfl rfl Zi rfl by3 (Yk _ (Yk _ (Yi _))) ⟨rfl,rfl⟩)
   |(rw [if_neg g15,if_neg g18,if_neg g29,if_pos g35] at hP;subst hP;exact Ze (R:=fun v M'=>_) (i:=1) rfl rfl rfl Zi rfl by3 (Yk _ (Yk _ (Yi _))) ⟨rfl,rfl⟩)
   |(rw [if_neg g15,if_neg g18,if_neg g29,if_neg g35,if_pos g44] at hP;subst hP;exact Ze (R:=fun v M'=>_) (i:=1) rfl rfl rfl Zi rfl by3 (Yk _ (Yk _ (Yi _))) ⟨rfl,rfl⟩)
   |(rw [if_neg g15,if_neg g18,if_neg g29,if_neg g35,if_neg g44,if_pos g47] at hP;subst hP;exact Ze (R:=fun v M'=>_) (i:=1) rfl rfl rfl Zi rfl by3 (Yk _ (Yk _ (Yi _))) ⟨rfl,rfl⟩)
   |(rw [if_neg g15,if_neg g18,if_neg g29,if_neg g35,if_neg g44,if_neg g47,if_pos g50] at hP;subst hP;exact Ze (R:=fun v M'=>_) (i:=1) rfl rfl rfl Zi rfl by3 (Yk _ (Yk _ (Yi _))) ⟨rfl,rfl⟩)
   |(rw [if_neg g15,if_neg g18,if_neg g29,if_neg g35,if_neg g44,if_neg g47,if_neg g50,if_pos g53] at hP;subst hP;exact Ze (R:=fun v M'=>_) (i:=1) rfl rfl rfl Zi rfl by3 (Yk _ (Yk _ (Yi _))) ⟨rfl,rfl⟩)
   |(rw [if_neg g15,if_neg g18,if_neg g29,if_neg g35,if_neg g44,if_neg g47,if_neg g50,if_neg g53,if_pos g59] at hP;subst hP;exact Ze (R:=fun v M'=>_) (i:=1) rfl rfl rfl Zi rfl by3 (Yk _ (Yk _ (Yi _))) ⟨rfl,rfl⟩)
   |(rw [if_neg g15,if_neg g18,if_neg g29,if_neg g35,if_neg g44,if_neg g47,if_neg g50,if_neg g53,if_neg g59] at hP;subst hP;exact Ze (R:=fun v M'=>_) (i:=1) rfl rfl rfl Zi rfl by3 (Yk _ (Yk _ (Yi _))) ⟨rfl,rfl⟩)
  refine QO ?_
  refine Yh [0,1,2,3,4,5,6,7,8,9,10] [8,10] [[],[0],[0,1],[0,1,2],[],[4],[0,1,2,3,4,5],[],[7],[0,1,2,3,4,5,6,7,8],[0,1,2,3,4,5,6,7,8,9]] tmix V ?_
  refine QD ?_
  refine Qbk ?_
  refine Zf 22 (some 2) (i:=3) V V V V V (op_load_m1 (i:=0) V ta_59 V V V ⟨V,V⟩) ?_
  refine QaF ?_
  refine Zf 25 (some 3) (i:=6) V V V V V (op_lookupv (i:=0) V tm_59 tu_9 tz_3 V V V (hs) ⟨V,V⟩) ?_
  refine QA ?_
  refine QbM ?_
  refine QA ?_
  refine QbM ?_
  show AGo _ _ _ _ _ _ _
  refine Qa2 ?_
  first
  |(rw [if_pos g15] at hP;subst hP;exact Ze (R:=fun v M'=>_) (i:=1) rfl rfl rfl Zi rfl by3 (Yk _ (Yk _ (Yi _))) ⟨rfl,rfl⟩)
  |(rw [if_neg g15,if_pos g18] at hP;subst hP;exact Ze (R:=fun v M'=>_) (i:=1) rfl rfl rfl Zi rfl by3 (Yk _ (Yk _ (Yi _))) ⟨rfl,rfl⟩)
  |(rw [if_neg g15,if_neg g18,if_pos g29] at hP;subst hP;exact Ze (R:=fun v M'=>_) (i:=1) rfl rfl rfl Zi rfl by3 (Yk _ (Yk _ (Yi _))) ⟨rfl,rfl⟩)
  |(rw [if_neg g15,if_neg g18,if_neg g29,if_pos g35] at hP;subst hP;exact Ze (R:=fun v M'=>_) (i:=1) rfl rfl rfl Zi rfl by3 (Yk _ (Yk _ (Yi _))) ⟨rfl,rfl⟩)
  |(rw [if_neg g15,if_neg g18,if_neg g29,if_neg g35,if_pos g44] at hP;subst hP;exact Ze (R:=fun v M'=>_) (i:=1) rfl rfl rfl Zi rfl by3 (Yk _ (Yk _ (Yi _))) ⟨rfl,rfl⟩)
  |(rw [if_neg g15,if_neg g18,if_neg g29,if_neg g35,if_neg g44,if_pos g47] at hP;subst hP;exact Ze (R:=fun v M'=>_) (i:=1) rfl rfl rfl Zi rfl by3 (Yk _ (Yk _ (Yi _))) ⟨rfl,rfl⟩)
  |(rw [if_neg g15,if_neg g18,if_neg g29,if_neg g35,if_neg g44,if_neg g47,if_pos g50] at hP;subst hP;exact Ze (R:=fun v M'=>_) (i:=1) rfl rfl rfl Zi rfl by3 (Yk _ (Yk _ (Yi _))) ⟨rfl,rfl⟩)
  |(rw [if_neg g15,if_neg g18,if_neg g29,if_neg g35,if_neg g44,if_neg g47,if_neg g50,if_pos g53] at hP;subst hP;exact Ze (R:=fun v M'=>_) (i:=1) rfl rfl rfl Zi rfl by3 (Yk _ (Yk _ (Yi _))) ⟨rfl,rfl⟩)
  |(rw [if_neg g15,if_neg g18,if_neg g29,if_neg g35,if_neg g44,if_neg g47,if_neg g50,if_neg g53,if_pos g59] at hP;subst hP;exact Ze (R:=fun v M'=>_) (i:=1) rfl rfl rfl Zi rfl by3 (Yk _ (Yk _ (Yi _))) ⟨rfl,rfl⟩)
  |(rw [if_neg g15,if_neg g18,if_neg g29,if_neg g35,if_neg g44,if_neg g47,if_neg g50,if_neg g53,if_neg g59] at hP;subst hP;exact Ze (R:=fun v M'=>_) (i:=1) rfl rfl rfl Zi rfl by3 (Yk _ (Yk _ (Yi _))) ⟨rfl,rfl⟩)
 refine QaT ?_
 refine QC ?_
 refine Qb4 ?_
 refine Qz ?_
 refine Qa2 ?_
 first
 |(rw [if_pos g15] at hP;subst hP;exact Ze (R:=fun v M'=>_) (i:=1) rfl rfl rfl Zi rfl by3 (Yk _ (Yk _ (Yi _))) ⟨rfl,rfl⟩)
 |(rw [if_neg g15,if_pos g18] at hP;subst hP;exact Ze (R:=fun v M'=>_) (i:=1) rfl rfl rfl Zi rfl by3 (Yk _ (Yk _ (Yi _))) ⟨rfl,rfl⟩)
 |(rw [if_neg g15,if_neg g18,if_pos g29] at hP;subst hP;exact Ze (R:=fun v M'=>_) (i:=1) rfl rfl rfl Zi rfl by3 (Yk _ (Yk _ (Yi _))) ⟨rfl,rfl⟩)
 |(rw [if_neg g15,if_neg g18,if_neg g29,if_pos g35] at hP;subst hP;exact Ze (R:=fun v M'=>_) (i:=1) rfl rfl rfl Zi rfl by3 (Yk _ (Yk _ (Yi _))) ⟨rfl,rfl⟩)
 |(rw [if_neg g15,if_neg g18,if_neg g29,if_neg g35,if_pos g44] at hP;subst hP;exact Ze (R:=fun v M'=>_) (i:=1) rfl rfl rfl Zi rfl by3 (Yk _ (Yk _ (Yi _))) ⟨rfl,rfl⟩)
 |(rw [if_neg g15,if_neg g18,if_neg g29,if_neg g35,if_neg g44,if_pos g47] at hP;subst hP;exact Ze (R:=fun v M'=>_) (i:=1) rfl rfl rfl Zi rfl by3 (Yk _ (Yk _ (Yi _))) ⟨rfl,rfl⟩)
 |(rw [if_neg g15,if_neg g18,if_neg g29,if_neg g35,if_neg g44,if_neg g47,if_pos g50] at hP;subst hP;exact Ze (R:=fun v M'=>_) (i:=1) rfl rfl rfl Zi rfl by3 (Yk _ (Yk _ (Yi _))) ⟨rfl,rfl⟩)
 |(rw [if_neg g15,if_neg g18,if_neg g29,if_neg g35,if_neg g44,if_neg g47,if_neg g50,if_pos g53] at hP;subst hP;exact Ze (R:=fun v M'=>_) (i:=1) rfl rfl rfl Zi rfl by3 (Yk _ (Yk _ (Yi _))) ⟨rfl,rfl⟩)
 |(rw [if_neg g15,if_neg g18,if_neg g29,if_neg g35,if_neg g44,if_neg g47,if_neg g50,if_neg g53,if_pos g59] at hP;subst hP;exact Ze (R:=fun v M'=>_) (i:=1) rfl rfl rfl Zi rfl by3 (Yk _ (Yk _ (Yi _))) ⟨rfl,rfl⟩)
 |(rw [if_neg g15,if_neg g18,if_neg g29,if_neg g35,if_neg g44,if_neg g47,if_neg g50,if_neg g53,if_neg g59] at hP;subst hP;exact Ze (R:=fun v M'=>_) (i:=1) rfl rfl rfl Zi rfl by3 (Yk _ (Yk _ (Yi _))) ⟨rfl,rfl⟩)
theorem getl {α:Type} {l:List α} {i:Nat} {x:α} (h:l[i]?=some x):i<l.length:=(List.getElem?_eq_some_iff.1 h).1
def Wt (n:Nat) (arms:List (List Nat)):Prop:=∀ l∈arms,l.length≤n∧∀ k∈l,k<n
theorem Wt.mono {n m:Nat} {arms:List (List Nat)} (h:Wt n arms) (k:n≤m):Wt m arms:=fun l hl=>⟨Nat.le_trans (h l hl).1 k,fun j hj=>Nat.lt_of_lt_of_le ((h l hl).2 j hj) k⟩
theorem wt_wait {n i:Nat} {arms:List (List Nat)} (h:Wt n arms):Wt (n+1) (wait arms i n):=by
 intro l hl
 unfold wait at hl
 rcases List.mem_or_eq_of_mem_set hl with hl|rfl
 ·exact (h.mono (Nat.le_succ n)) l hl
 unfold at_
 cases hi:arms[i]? with
 | none=>simp
 | some x =>
  obtain ⟨h1,h2⟩:=h x (Yu hi)
  simp only [Option.getD_some]
  refine ⟨by rw [List.length_append,List.length_cons,List.length_nil];omega,fun k hk=>?_⟩
  rcases List.mem_append.1 hk with q|q
  ·have:=h2 k q;omega
  rw [List.mem_singleton.1 q];omega
theorem here_len (ks:List Nat) (s:Gs):(hereF s ks).ins.length=s.ins.length:=(here_keep (n:=0) ks s (fun _ _=>Nat.zero_le _)).2
theorem dec_ge (look:Ato) (d:De) (s:Gs) (arms:List (List Nat)):s.ins.length≤(decF look d s arms).1.ins.length:=(dec_keep (n:=0) look d s arms (Nat.zero_le _) (fun _ _ _ _=>Nat.zero_le _)).1.1
theorem cas_ge (look:Ato) (d:List Dc) (s:Gs) (arms:List (List Nat)):s.ins.length≤(casF look d s arms).1.ins.length:=(cas_keep (n:=0) look d s arms (Nat.zero_le _) (fun _ _ _ _=>Nat.zero_le _)).1.1
theorem addF_len (s:Gs) (i:Is):(addF s i).ins.length=s.ins.length+1:=by simp [addF]
mutual
theorem dec_wt (look:Ato):∀ (d:De) (s:Gs) (arms:List (List Nat)),Wt s.ins.length arms→Wt (decF look d s arms).1.ins.length (decF look d s arms).2∧(decF look d s arms).2.length=arms.length
 | .mk k a p cs es,s,arms,h=>by
  rw [decF]
  split
  ·refine ⟨?_,by simp [wait]⟩
   show Wt (addF s iJump).ins.length _
   rw [addF_len];exact wt_wait h
  split
  ·exact ⟨h.mono (by rw [addF_len];omega),V⟩
  have h0:Wt (s.ins++[iLook look]++p.map iPart).length arms:=h.mono (by rw [List.append_assoc,List.length_append];omega)
  obtain ⟨h1,h2⟩:=cas_wt look cs ⟨s.ins++[iLook look]++p.map iPart,s.mo⟩ arms h0
  obtain ⟨h3,h4⟩:=els_wt look es _ _ h1
  exact ⟨h3,h4.trans h2⟩
theorem cas_wt (look:Ato):∀ (cs:List Dc) (s:Gs) (arms:List (List Nat)),Wt s.ins.length arms→Wt (casF look cs s arms).1.ins.length (casF look cs s arms).2∧(casF look cs s arms).2.length=arms.length
 | [],s,arms,h=>by rw [casF];exact ⟨h,rfl⟩
 | .mk _ _ m d::cs,s,arms,h=>by
  rw [casF]
  obtain ⟨h1,h2⟩:=dec_wt look d (addF s (iTest m)) arms (h.mono (by rw [addF_len];omega))
  obtain ⟨h3,h4⟩:=cas_wt look cs (hereF (decF look d (addF s (iTest m)) arms).1 [s.ins.length]) (decF look d (addF s (iTest m)) arms).2 (by rw [here_len];exact h1)
  exact ⟨h3,h4.trans h2⟩
theorem els_wt (look:Ato):∀ (es:List De) (s:Gs) (arms:List (List Nat)),Wt s.ins.length arms→Wt (elsF look es s arms).1.ins.length (elsF look es s arms).2∧(elsF look es s arms).2.length=arms.length
 | [],s,arms,h=>by rw [elsF];exact ⟨h.mono (by rw [addF_len];omega),rfl⟩
 | d::_,s,arms,h=>by rw [elsF];exact dec_wt look d s arms h
end
theorem cas_drop {look:Ato} {cs:List Dc} {j:Nat} {q m:Int} {s:ByteArray} {d:De} (h:cs[j]?=some (.mk q s m d)) (g:Gs) (arms:List (List Nat)) :
    casF look (cs.drop j) g arms=casF look (cs.drop (j+1)) (hereF (decF look d (addF g (iTest m)) arms).1 [g.ins.length]) (decF look d (addF g (iTest m)) arms).2:=by
 rw [List.drop_eq_getElem_cons (getl h)]
 rw [List.getElem?_eq_getElem (getl h)] at h
 rw [Option.some.inj h,casF]
theorem Dc.sizes_drop {cs:List Dc} {j:Nat} {q m:Int} {s:ByteArray} {d:De} (h:cs[j]?=some (.mk q s m d)):Dc.sizes (cs.drop j)=1+d.size+Dc.sizes (cs.drop (j+1)):=by
 rw [List.drop_eq_getElem_cons (getl h)]
 rw [List.getElem?_eq_getElem (getl h)] at h
 rw [Option.some.inj h,Dc.sizes,Dc.size]
theorem dec_alt {look:Ato} {k a:Int} {p:List Int} {cs:List Dc} {es:List De} (g:Gs) (arms:List (List Nat)) (h:k=1∧0≤a):decF look (.mk k a p cs es) g arms=(addF g iJump,wait arms a.toNat g.ins.length):=by rw [decF,if_pos h]
theorem dec_fail {look:Ato} {k a:Int} {p:List Int} {cs:List Dc} {es:List De} (g:Gs) (arms:List (List Nat)) (h:¬ (k=1∧0≤a)) (h2:k≠2):decF look (.mk k a p cs es) g arms=(addF g iFail,arms):=by rw [decF,if_neg h,if_pos h2]
theorem dec_switch {look:Ato} {k a:Int} {p:List Int} {cs:List Dc} {es:List De} (g:Gs) (arms:List (List Nat)) (h2:k=2):decF look (.mk k a p cs es) g arms=elsF look es (casF look cs ⟨g.ins++[iLook look]++p.map iPart,g.mo⟩ arms).1 (casF look cs ⟨g.ins++[iLook look]++p.map iPart,g.mo⟩ arms).2:=by
 rw [decF,if_neg by11,if_neg (by simp [h2])]
def ArmsM (b:Nat):List (Nat × List Nat)→Mem→Prop
 | [],M=>M=[]
 |(l,ks)::ls,M=>∃ M1 M2,LbM l b ks M1∧ArmsM b ls M2∧M=M1++M2
def ArmP (b:Nat) (ls:List (Nat × List Nat)) (M:Mem):Prop:=∃ M0,ArmsM b ls M0∧M.Perm M0
theorem arms_pick {b:Nat}:∀ {ls:List (Nat × List Nat)} {M:Mem} {i l:Nat} {ks:List Nat},ArmsM b ls M→ls[i]?=some (l,ks)→∃ ML MR,LbM l b ks ML∧M.Perm (ML++MR)∧∀ ks' ML',LbM l b ks' ML'→ArmP b (ls.set i (l,ks')) (ML'++MR)
 | [],_,i,_,_,_,h=>by simp at h
 |(l0,k0)::ls,M,0,l,ks,hM,h=>by
  obtain ⟨M1,M2,h1,h2,rfl⟩:=hM
  simp at h
  obtain ⟨rfl,rfl⟩:=h
  exact ⟨M1,M2,h1,List.Perm.refl _,fun ks' ML' hL=>⟨_,⟨ML',M2,hL,h2,V⟩,List.Perm.refl _⟩⟩
 |(l0,k0)::ls,M,i+1,l,ks,hM,h=>by
  obtain ⟨M1,M2,h1,h2,rfl⟩:=hM
  obtain ⟨ML,MR,j1,j2,j3⟩:=arms_pick (ls:=ls) (i:=i) h2 (by simpa using h)
  refine ⟨ML,M1++MR,j1,?_,fun ks' ML' hL=>?_⟩
  ·exact (j2.append_left M1).trans (List.perm_append_comm_assoc M1 ML MR)
  obtain ⟨M0,q1,q2⟩:=j3 ks' ML' hL
  refine ⟨M1++M0,⟨M1,M0,h1,q1,V⟩,?_⟩
  exact (List.perm_append_comm_assoc ML' M1 MR).trans (q2.append_left M1)
theorem armP_pick {b:Nat} {ls:List (Nat × List Nat)} {M:Mem} {i l:Nat} {ks:List Nat} (hM:ArmP b ls M) (h:ls[i]?=some (l,ks)):∃ ML MR,LbM l b ks ML∧M.Perm (ML++MR)∧∀ ks' ML',LbM l b ks' ML'→ArmP b (ls.set i (l,ks')) (ML'++MR):=by
 obtain ⟨M0,h1,h2⟩:=hM
 obtain ⟨ML,MR,j1,j2,j3⟩:=arms_pick h1 h
 exact ⟨ML,MR,j1,h2.trans j2,j3⟩
theorem armP_nil {b:Nat}:ArmP b [] []:=⟨[],rfl,List.Perm.refl _⟩
theorem armP_snoc {b l:Nat} {ls:List (Nat × List Nat)} {M ML:Mem} {ks:List Nat} (h:ArmP b ls M) (hL:LbM l b ks ML):ArmP b (ls++[(l,ks)]) (ML++M):=by
 obtain ⟨M0,h1,h2⟩:=h
 have key:∀ (ls:List (Nat × List Nat)) (M0:Mem),ArmsM b ls M0→ArmsM b (ls++[(l,ks)]) (M0++ML):=by
  intro ls
  induction ls with
  | nil=>intro M0 h;have h:M0=[]:=h;subst h;exact ⟨ML,[],hL,rfl,by simp⟩
  | cons p ls ih =>
   rintro M0 ⟨M1,M2,q1,q2,rfl⟩
   exact ⟨M1,M2++ML,q1,ih M2 q2,by rw [List.append_assoc]⟩
 exact ⟨M0++ML,key ls M0 h1,(List.perm_append_comm).trans (h2.append_right ML)⟩
def ptrs (ls:List Nat):List (List AV):=ls.map fun l=>[.ptr l 0]
section
variable {ro:Option Nat} {P:Program} {n:Nat} {ks:List Kont} {Q:Exit→Sl→Mem→Prop} {c:Code} {al:Sl} {M:Mem}
theorem c_ownF (e:TypeId) (m:Nat) (h:ACode ro P n c (after ro P n ks Q) al (.own e m (.slice none 0 0)::M)):ACode ro P n c (after ro P n ks Q) al M:=fun B F Mf a w hi hs =>
 h B F Mf a w (hi.ownNil e m) hs
end
theorem perm4 (A B C D:Mem):((A++B)++(C++D)).Perm ((A++C)++(B++D)):=by
 rw [List.append_assoc,List.append_assoc]
 exact (List.perm_append_comm_assoc B C D).append_left A
def DecR (b:Nat) (mp ls:AV) (look:Ato) (d:De) (g:Gs) (arms:List (Nat × List Nat)):AV→Mem→Prop:=fun _ M'=>∃ M1 M2 arms',M'=M1++M2∧MkM b mp ls (decF look d g (arms.map Prod.snd)).1 M1∧ArmP b arms' M2∧arms'.map Prod.fst=arms.map Prod.fst∧arms'.map Prod.snd=(decF look d g (arms.map Prod.snd)).2
theorem set_fst {arms:List (Nat × List Nat)} {i l:Nat} {ks ks':List Nat} (h:arms[i]?=some (l,ks)):(arms.set i (l,ks')).map Prod.fst=arms.map Prod.fst:=by
 apply List.ext_getElem?
 intro j
 rw [List.map_set,List.getElem?_set]
 split
 ·rename_i e
  subst e
  split
  ·simp [h]
  rename_i q;simp at q;rw [List.getElem?_eq_none (by simpa using q)]
 rfl
theorem set_snd {arms:List (Nat × List Nat)} {i l n:Nat} {ks:List Nat} (h:arms[i]?=some (l,ks)):(arms.set i (l,ks++[n])).map Prod.snd=wait (arms.map Prod.snd) i n:=by
 unfold wait at_
 rw [List.map_set]
 congr 1
 simp [h]
theorem decAlt_c (look:Ato) (b:Nat) (mp ls:AV) (g:Gs) (arms:List (Nat × List Nat)) (M MA:Mem) (k a:Int) (p:List Int) (cs:List Dc) (es:List De) (hf:(De.mk k a p cs es).fit arms.length) (hk:k=1∧0≤a) (hl:g.ins.length≤100000000) (hW:Wt g.ins.length (arms.map Prod.snd)) (hM:MkM b mp ls g M) (hA:ArmP b arms MA) :
    ACall Try.prog 39 [.ptr b 0,.agg (De.mk k a p cs es).cells,.agg look.cells,.seq 1 (ptrs (arms.map Prod.fst))] (M++MA) (DecR b mp ls look (.mk k a p cs es) g arms):=by
 unfold DecR
 rw [dec_alt g _ hk]
 have hi:=fit_alt hf hk.1
 obtain ⟨⟨l,ks⟩,hlk⟩:=Zh (l:=arms) (i:=a.toNat) by11
 obtain ⟨ML,MR,h1,h2,h3⟩:=armP_pick hA hlk
 have hw:=hW ks (List.mem_map.2 ⟨_,Yu hlk,rfl⟩)
 have HJ:=jump_c b l mp ls g ks iJump M ML hM by11 h1 by11
 obtain ⟨u,hu,rfl⟩:=hM
 obtain ⟨v,rfl⟩:=h1
 obtain ⟨ak,an⟩:=look
 have hpt:(ptrs (arms.map Prod.fst))[a.toNat]?=some [.ptr l 0]:=by simp [ptrs,hlk]
 have hpl:(ptrs (arms.map Prod.fst)).length=arms.length:=by simp [ptrs]
 refine QcR ?_
 refine QJ ?_
 refine ACode.perm (h2.append_left _) ?_
 refine Qy ?_
 refine Qbo ?_
 refine QbU ?_
 refine Qg ?_
 refine QP ?_
 refine Zo 13 (k=1∧0≤a) ?_ _ _ V ?_
 ·skip
  refine Ql ?_
  refine Qx ?_;intro c16 h16
  refine Qa ?_
  obtain ⟨rfl,g16⟩|⟨rfl,g16⟩:=Za h16
  ·skip
   refine QM ?_
   refine Yp V ?_ by4 by1
   simp_all;done
  skip
  refine Qc ?_
  refine QbH ?_;intro c20 h20
  refine Qm ?_
  refine Yp V ?_ by4 by1
  simp_all;done
 intro c13 h13
 refine Qj ?_
 obtain ⟨rfl,g13⟩|⟨rfl,g13⟩:=Za h13
 ·exact absurd hk g13
 refine QO ?_
 refine Qr ?_
 refine Qdb ?_
 refine Qa ?_
 refine Ql ?_
 refine Zb 27 V V V (Zj (i:=a.toNat) V te_106 V (.seq _ _) V by7 (hpt) ?_)
 refine QR ?_
 refine Zb 29 V V V (Yd [0,0,0,0] (xs:=[.tmp 22,.tmp 23,.tmp 28])  V V V HJ by0 (fun v29 M29 h29=>?_))
 refine Qd ?_
 refine c_ret ?_
 obtain ⟨M1,M2,rfl,j1,j2⟩:=h29
 exact out_none V (Yi _) ⟨M1,M2++MR,arms.set a.toNat (l,ks++[g.ins.length]),List.append_assoc _ _ _,j1,h3 _ _ j2,set_fst hlk,set_snd hlk⟩
theorem decFail_c (look:Ato) (b:Nat) (mp ls:AV) (g:Gs) (arms:List (Nat × List Nat)) (M MA:Mem) (k a:Int) (p:List Int) (cs:List Dc) (es:List De) (hk:¬ (k=1∧0≤a)) (hk2:k≠2) (hl:g.ins.length≤100000000) (hM:MkM b mp ls g M) (hA:ArmP b arms MA) :
    ACall Try.prog 39 [.ptr b 0,.agg (De.mk k a p cs es).cells,.agg look.cells,.seq 1 (ptrs (arms.map Prod.fst))] (M++MA) (DecR b mp ls look (.mk k a p cs es) g arms):=by
 unfold DecR
 rw [dec_fail g _ hk hk2]
 have HA:=add_c b mp ls g iFail M hM by11
 obtain ⟨u,hu,rfl⟩:=hM
 obtain ⟨ak,an⟩:=look
 refine QcR ?_
 refine Qi ?_
 refine Qbo ?_
 refine QbU ?_
 refine Qg ?_
 refine QP ?_
 refine Zo 13 (k=1∧0≤a) ?_ _ _ V ?_
 ·skip
  refine Ql ?_
  refine Qx ?_;intro c16 h16
  refine Qa ?_
  obtain ⟨rfl,g16⟩|⟨rfl,g16⟩:=Za h16
  ·skip
   refine QM ?_
   refine Yp V ?_ by4 by1
   simp_all;done
  skip
  refine Qc ?_
  refine QbH ?_;intro c20 h20
  refine Qm ?_
  refine Yp V ?_ by4 by1
  simp_all;done
 intro c13 h13
 refine Qj ?_
 obtain ⟨rfl,g13⟩|⟨rfl,g13⟩:=Za h13
 ·refine Qai ?_
  refine Qba ?_
  refine Qbx ?_;intro c33 h33
  refine Qb ?_
  obtain ⟨rfl,g33⟩|⟨rfl,g33⟩:=Za h33
  ·exact absurd hk2 g33
  refine QO ?_
  refine Qr ?_
  refine QcS ?_
  refine Zb 36 V V V (Yd [0,0] (xs:=[.tmp 34,.tmp 35])  V V V HA by0 (fun v36 M36 h36=>?_))
  refine Qd ?_
  refine c_ret ?_
  exact out_none V (Yi _) ⟨M36,MA,arms,V,h36,hA,V,V⟩
 exact absurd g13 hk
def DecC (N:Nat):Prop:=∀ (d:De) (look:Ato) (b:Nat) (mp ls:AV) (g:Gs) (arms:List (Nat × List Nat)) (M MA:Mem),d.size≤N→d.fit arms.length→g.ins.length+2 * d.size≤100000000→Wt g.ins.length (arms.map Prod.snd)→MkM b mp ls g M→ArmP b arms MA →
    ACall Try.prog 39 [.ptr b 0,.agg d.cells,.agg look.cells,.seq 1 (ptrs (arms.map Prod.fst))] (M++MA) (DecR b mp ls look d g arms)
theorem path_snoc {p:List Int} {j:Nat} {x:Int} (h:p[j]?=some x) (l:List Is) (mo:Nat):addF ⟨l++(p.take j).map iPart,mo⟩ (iPart x)=⟨l++(p.take (j+1)).map iPart,mo⟩:=by
 unfold addF
 rw [List.take_add_one,h,List.map_append,← List.append_assoc];rfl
set_option maxHeartbeats 8000000 in
theorem decSwitch_c (N:Nat) (IH:DecC N) (look:Ato) (b:Nat) (mp ls:AV) (g:Gs) (arms:List (Nat × List Nat)) (M MA:Mem) (k a:Int) (p:List Int) (cs:List Dc) (es:List De) (hN:(De.mk k a p cs es).size≤N+1) (hf:(De.mk k a p cs es).fit arms.length) (hk2:k=2) (hl:g.ins.length+2 * (De.mk k a p cs es).size≤100000000) (hW:Wt g.ins.length (arms.map Prod.snd)) (hM:MkM b mp ls g M) (hA:ArmP b arms MA) :
    ACall Try.prog 39 [.ptr b 0,.agg (De.mk k a p cs es).cells,.agg look.cells,.seq 1 (ptrs (arms.map Prod.fst))] (M++MA) (DecR b mp ls look (.mk k a p cs es) g arms):=by
 unfold DecR
 rw [dec_switch g _ hk2]
 rw [De.size] at hN hl
 have HA:=add_c b mp ls g (iLook look) M hM by11
 obtain ⟨u0,hu0,rfl⟩:=hM
 have hpn:(nums p).length=p.length:=nums_len p
 have hcn:=Dc.cellss_len cs
 have hen:=De.cellss_len es
 have hpos:∀ x:De,1≤x.size:=De.size_pos
 obtain ⟨ak,an⟩:=look
 refine QcR ?_
 refine Qi ?_
 refine Qbo ?_
 refine QbU ?_
 refine Qg ?_
 refine QP ?_
 refine Zo 13 (k=1∧0≤a) ?_ _ _ V ?_
 ·skip
  refine Ql ?_
  refine Qx ?_;intro c16 h16
  refine Qa ?_
  obtain ⟨rfl,g16⟩|⟨rfl,g16⟩:=Za h16
  ·skip
   refine QM ?_
   refine Yp V ?_ by4 by1
   simp_all;done
  skip
  refine Qc ?_
  refine QbH ?_;intro c20 h20
  refine Qm ?_
  refine Yp V ?_ by4 by1
  simp_all;done
 intro c13 h13
 refine Qj ?_
 obtain ⟨rfl,g13⟩|⟨rfl,g13⟩:=Za h13
 ·refine Qai ?_
  refine Qba ?_
  refine Qbx ?_;intro c33 h33
  refine Qb ?_
  obtain ⟨rfl,g33⟩|⟨rfl,g33⟩:=Za h33
  ·refine QB ?_
   refine QaJ ?_
   refine Qr ?_
   refine Qct ?_
   refine Zb 39 V V V (Zr (xs:=[.tmp 38]) el_42 V V V V V V (Yq V) (Zb 40 V V V (Zn (ns:=[0,4]) (xs:=[.const (.int .i64 11),.tmp 39]) V tz_53 V tfl_53 V V V V ?_)))
   refine Zb 41 V V V (Yd [0,0] (xs:=[.tmp 37,.tmp 40])  V V V HA by0 (fun v41 M41 h41=>?_))
   refine Qg ?_
   refine Qo ?_
   obtain ⟨u1,hu1,rfl⟩:=h41
   refine QaV ?_
   refine Qa6 ?_;intro n44
   refine Qv ?_
   apply c_loopk (rg [(1,2),(4,1),(7,4),(13,30),(45,9),(68,1),(74,1),(77,1),(90,1),(93,1)]) (σ:=Nat × Value) (fun zz=>match zz with|(j,u)=>[(45,.val (.int .i64 (j:Nat)))]) (fun zz=>match zz with|(j,u)=>.loc b [.val u,mp,ls,.val (.int .i64 (g.mo:Nat))]::.row 53 7 u (Is.cellss (g.ins++[iLook (Ato.mk ak an)]++(p.take j).map iPart))::MA) (fun zz=>match zz with|(j,u)=>j≤p.length∧((u=.slice none 0 0∧(g.ins++[iLook (Ato.mk ak an)]++(p.take j).map iPart)=[])∨∃ gb cap,u=rowv gb (g.ins++[iLook (Ato.mk ak an)]++(p.take j).map iPart).length cap)) (fun zz=>match zz with|(j,u)=>p.length - j) ((0,u1))
   ·repeat' (first|exact Yt|apply Yr rfl|apply Ys rfl)
   ·exact ⟨Nat.zero_le _,by simpa [addF] using hu1⟩
   ·exact by2
   ·exact Yj _ (by rw [show (addF g (iLook (Ato.mk ak an))).ins=g.ins++[iLook (Ato.mk ak an)]++(p.take 0).map iPart by simp [addF]];exact Yi _)
   rintro ⟨j,u⟩ hI
   try dsimp only [List.cons_append,List.nil_append] at hI ⊢
   obtain ⟨hj,hu⟩:=hI
   refine Qw ?_;intro c46 h46
   refine Qg ?_
   obtain ⟨rfl,g46⟩|⟨rfl,g46⟩:=Za h46
   ·refine Qac ?_
    refine Qo ?_
    rw [List.take_of_length_le by11] at hu
    rw [List.take_of_length_le by11]
    obtain ⟨gp,hgp⟩:∃ gp:Gs,gp=⟨g.ins++[iLook (Ato.mk ak an)]++p.map iPart,g.mo⟩:=⟨_,rfl⟩
    have hgl:gp.ins.length=g.ins.length+1+p.length:=by rw [hgp];simp;omega
    have hWp:Wt gp.ins.length (arms.map Prod.snd):=hW.mono by11
    rw [show g.ins++[iLook (Ato.mk ak an)]++p.map iPart=gp.ins by rw [hgp]] at hu ⊢
    rw [show g.mo=gp.mo by rw [hgp]]
    rw [show (Gs.mk gp.ins gp.mo)=gp from rfl]
    refine QaV ?_
    refine Qb9 ?_;intro n56
    refine Qv ?_
    apply c_loopk (rg [(1,2),(4,1),(7,48),(57,22),(90,1),(93,1)]) (σ:=Nat × Gs × List (Nat × List Nat) × Value × Mem) (fun zz=>match zz with|(j,gj,aj,u,MB)=>[(57,.val (.int .i64 (j:Nat)))]) (fun zz=>match zz with|(j,gj,aj,u,MB)=>.loc b [.val u,mp,ls,.val (.int .i64 (gj.mo:Nat))]::.row 53 7 u (Is.cellss gj.ins)::MB) (fun zz=>match zz with|(j,gj,aj,u,MB)=>j≤cs.length∧((u=.slice none 0 0∧gj.ins=[])∨∃ gb cap,u=rowv gb gj.ins.length cap)∧ArmP b aj MB∧aj.map Prod.fst=arms.map Prod.fst∧casF (Ato.mk ak an) cs gp (arms.map Prod.snd)=casF (Ato.mk ak an) (cs.drop j) gj (aj.map Prod.snd)∧Wt gj.ins.length (aj.map Prod.snd)∧gj.ins.length+2 * Dc.sizes (cs.drop j)≤gp.ins.length+2 * Dc.sizes cs) (fun zz=>match zz with|(j,gj,aj,u,MB)=>cs.length - j) ((0,gp,arms,u,MA))
    ·repeat' (first|exact Yt|apply Yr rfl|apply Ys rfl)
    ·exact ⟨Nat.zero_le _,hu,hA,V,V,hWp,Nat.le_refl _⟩
    ·exact by2
    ·exact Yl V
    rintro ⟨j,gj,aj,u,MB⟩ hI
    try dsimp only [List.cons_append,List.nil_append] at hI ⊢
    obtain ⟨hj2,hu2,hA2,hf2,hc2,hW2,hs2⟩:=hI
    have hal:aj.length=arms.length:=by have:=congrArg List.length hf2;simpa using this
    refine Qw ?_;intro c58 h58
    refine Qg ?_
    obtain ⟨rfl,g58⟩|⟨rfl,g58⟩:=Za h58
    ·refine Qac ?_
     refine Qo ?_
     rw [List.drop_eq_nil_of_le by11,casF] at hc2
     rw [hc2]
     rw [List.drop_eq_nil_of_le by11,Dc.sizes] at hs2
     refine QaV ?_
     refine Qca ?_;intro n81
     refine QbV ?_;intro c82 h82
     refine Qd ?_
     obtain ⟨rfl,g82⟩|⟨rfl,g82⟩:=Za h82
     ·refine QB ?_
      refine Qj ?_
      have HA2:=add_c b mp ls gj iFail _ ⟨u,hu2,rfl⟩ by11
      have hel:elsF (Ato.mk ak an) es gj (aj.map Prod.snd)=(addF gj iFail,aj.map Prod.snd):=by
       cases es with
       | nil=>rw [elsF]
       | cons y l=>simp at hen;omega
      rw [hel]
      refine Qn ?_
      refine QcS ?_
      refine Zb 93 V V V (Yd [0,0] (xs:=[.tmp 91,.tmp 92])  V V V HA2 by0 (fun v93 M93 h93=>?_))
      refine Qz ?_
      refine go_end ?_
      exact out_none V (Yi _) ⟨M93,MB,aj,V,h93,hA2,hf2,V⟩
     refine Qas ?_
     obtain ⟨d2,hd2⟩:=Zh (l:=es) (i:=0) by11
     have hcd2:=De.cellss_get hd2
     have hgd2:=De.sizes_get hd2
     have hfd2:=fit_else hf hk2 hd2
     have HD2:=IH d2 (Ato.mk ak an) b mp ls gj aj _ MB by11 (by rw [hal];exact hfd2) by11 hW2 ⟨u,hu2,rfl⟩ hA2
     rw [hf2] at HD2
     have hel:elsF (Ato.mk ak an) es gj (aj.map Prod.snd)=decF (Ato.mk ak an) d2 gj (aj.map Prod.snd):=by
      cases es with
      | nil=>simp at hd2
      | cons y l=>simp at hd2;subst hd2;rw [elsF]
     unfold DecR at HD2
     rw [← hel,hf2] at HD2
     obtain ⟨dk,da,dp,dcs,des⟩:=d2
     simp only [De.cells] at hcd2 HD2
     refine Yh [0,1,2,3,4,5,6,7] [7] [[],[],[1],[1,2],[1,2,3],[],[],[0,1,2,3,4,5,6]] tmix V ?_
     refine QD ?_
     refine QaF ?_
     refine Zf 86 (none) (i:=3) V V V V V (Zj V te_46 V (.seq _ _) V V (hcd2) ⟨V,V⟩) ?_
     refine Qdc ?_
     refine Qdd ?_
     refine QD ?_
     refine EOps.wh (i:=7) V V V V (op_callg (xs:=[.tmp 83,.tmp 87,.tmp 88,.tmp 89])  V V HD2 by0 (by rw [List.append_nil];exact List.Perm.refl _) (fun v90 M90 h90=>?_))
     show AGo _ _ _ _ _ _ _
     refine Qs ?_
     exact out_none V (Yi _) (by rw [List.append_nil];exact h90)
    refine Qp ?_
    obtain ⟨⟨q,s,m,d⟩,hd⟩:=Zh (l:=cs) (i:=j) by11
    have hcd:=Dc.cellss_get hd
    have hsd:=Dc.sizes_drop hd
    have hgd:=Dc.sizes_get hd
    have hfd:=fit_case hf hk2 hd
    rw [Dc.size] at hgd
    rw [cas_drop hd] at hc2
    have HD:=IH d (Ato.mk ak an) b mp ls (addF gj (iTest m)) aj
    have hdl:=dec_len (Ato.mk ak an) d (addF gj (iTest m)) (aj.map Prod.snd)
    have hdg:=dec_ge (Ato.mk ak an) d (addF gj (iTest m)) (aj.map Prod.snd)
    have hdw:=dec_wt (Ato.mk ak an) d (addF gj (iTest m)) (aj.map Prod.snd) (hW2.mono (by rw [addF_len];omega))
    have hal2:=addF_len gj (iTest m)
    obtain ⟨dk,da,dp,dcs,des⟩:=d
    simp only [Dc.cells,De.cells] at hcd HD
    refine Qk ?_
    refine Zb 59 V V V (Zj V te_45 V (.seq _ _) V V (hcd) ?_)
    refine Qcx ?_
    refine Qc6 ?_;intro b11
    refine Qc7 ?_
    refine QaE ?_
    refine QcT ?_
    refine QcU ?_;intro b62
    refine Qu ?_
    refine c_ownF 133 1 ?_
    refine QcV ?_
    have HJ:=jump_c b b62 mp ls gj [] (iTest m) _ _ ⟨u,hu2,rfl⟩ by11 ⟨.slice none 0 0,rfl⟩ by12
    refine Qn ?_
    refine QC ?_
    refine QbJ ?_
    refine Zb 66 V V V (Zn (ns:=[0,3]) (xs:=[.const (.int .i64 13),.tmp 65]) V tz_53 V tfl_53 V V V V ?_)
    refine Qa ?_
    refine Zb 68 V V V (Yd [3,3,1,0] (xs:=[.tmp 63,.tmp 66,.tmp 67])  V V V HJ by0 (fun v68 M68 h68=>?_))
    refine Qg ?_
    obtain ⟨M1,M2,rfl,⟨u3,hu3,rfl⟩,⟨v3,rfl⟩⟩:=h68
    refine ACode.perm (pick_perm (is:=[2,2,2]) V) ?_
    have HD:=HD _ MB by11 (by rw [hal];exact hfd) by11 (hW2.mono by11) ⟨u3,hu3,rfl⟩ hA2
    rw [hf2] at HD
    refine Qn ?_
    refine QC ?_
    refine Zb 71 V V V (Zs (cs':=[_,_,_,_,_]) (i:=2) V ta_48 V V V V ?_)
    refine Qct ?_
    refine Qa ?_
    refine Zb 74 V V V (op_callg (xs:=[.tmp 69,.tmp 71,.tmp 72,.tmp 73])  V V HD by0 (List.perm_append_comm (l₁:=[_,_,_])) (fun v74 M74 h74=>?_))
    refine Qd ?_
    obtain ⟨M1,MB2,aj2,rfl,⟨u4,hu4,rfl⟩,hA3,hf3,hs3⟩:=h74
    obtain ⟨g2,hg2⟩:∃ g2,(decF (Ato.mk ak an) (De.mk dk da dp dcs des) (addF gj (iTest m)) (aj.map Prod.snd)).1=g2:=⟨_,rfl⟩
    rw [hg2] at hc2 hu4 hdl hdg hdw
    rw [hg2]
    have HH:=here_c b b62 mp ls g2 [gj.ins.length] _ _ ⟨u4,hu4,rfl⟩ ⟨v3,rfl⟩ by8
    have hhl:=here_len [gj.ins.length] g2
    refine Qaz ?_
    refine Zb 77 V V V (op_callg (xs:=[.tmp 75,.tmp 76])  V V HH by0 (perm4 _ _ [_,_] [_]) (fun v77 M77 h77=>?_))
    refine Qz ?_
    refine QT ?_
    obtain ⟨M1,rfl,u5,hu5,rfl⟩:=h77
    exact ⟨(j+1,hereF g2 [gj.ins.length],aj2,u5,MB2),⟨by show j+1≤cs.length;omega,hu5,hA3,hf3.trans hf2,by rw [hc2,hs3],by rw [hhl,hs3];exact hdw.1,by show (hereF g2 [gj.ins.length]).ins.length+2 * Dc.sizes (cs.drop (j+1))≤gp.ins.length+2 * Dc.sizes cs;omega⟩,by show cs.length - (j+1)<cs.length - j;omega,by2,Yj _ (Yj _ (Yk _ (Yk _ (show MLe (MB2++[_]) MB2 from MLe.pre _ _))))⟩
   refine Qp ?_
   obtain ⟨x,hx⟩:=Zh (l:=p) (i:=j) by11
   have hcx:(nums p)[j]?=some [.val (.int .i64 x)]:=by simp [nums,hx]
   have HP:=add_c b mp ls ⟨g.ins++[iLook (Ato.mk ak an)]++(p.take j).map iPart,g.mo⟩ (iPart x) _ ⟨u,hu,rfl⟩ by8
   rw [path_snoc hx] at HP
   refine Qk ?_
   refine Zb 47 V V V (Zj V te_43 V (.seq _ _) V V (hcx) ?_)
   refine QR ?_
   refine Qb ?_
   refine Qaz ?_
   refine Zb 51 V V V (Zn (ns:=[0,3]) (xs:=[.const (.int .i64 12),.tmp 50]) V tz_53 V tfl_53 V V V V ?_)
   refine Zb 52 V V V (Yd [0,0] (xs:=[.tmp 49,.tmp 51])  V V V HP by0 (fun v52 M52 h52=>?_))
   refine Qz ?_
   refine QT ?_
   obtain ⟨u2,hu2,rfl⟩:=h52
   exact ⟨(j+1,u2),⟨by show j+1≤p.length;omega,hu2⟩,by show p.length - (j+1)<p.length - j;omega,by2,Yl V⟩
  exact absurd hk2 g33
 omega
theorem dec_c:∀ N:Nat,DecC N
 | 0=>fun d _ _ _ _ _ _ _ _ h=>by have:=De.size_pos d;omega
 | N+1=>by
  intro d look b mp ls g arms M MA hN hf hl hW hM hA
  obtain ⟨k,a,p,cs,es⟩:=d
  by_cases h1:k=1∧0≤a
  ·exact decAlt_c look b mp ls g arms M MA k a p cs es hf h1 by11 hW hM hA
  by_cases h2:k=2
  ·exact decSwitch_c N (dec_c N) look b mp ls g arms M MA k a p cs es hN hf h2 hl hW hM hA
  exact decFail_c look b mp ls g arms M MA k a p cs es h1 h2 by11 hM hA
def BodC (N:Nat):Prop:=∀ (l:List St) (b bt:Nat) (ls:AV) (tx:List ByteArray) (kvs:List (ByteArray × AV)) (g:Gs) (M:Mem),St.sizes l≤N→St.wfs l→g.ins.length+2 * St.sizes l≤100000000→MapOk tx kvs→MkM b (.val (.map (some bt))) ls g M →
    ACall Try.prog 11 [.ptr b 0,.seq 13 (St.cellss l)] (M++[mapR bt kvs]) (fun _ M'=>∃ M1,M'=M1++[mapR bt kvs]∧MkM b (.val (.map (some bt))) ls (bodF tx l g) M1)
theorem arm_step {tx:List ByteArray} {arms:List (List St)} {pl:List (List Nat)} {j:Nat} {x:List St} {ks:List Nat} (g:Gs) (e:List Nat) (h:arms[j]?=some x) (hp:pl[j]?=some ks) :
    armF tx (arms.drop j) (pl.drop j) g e=if opn (hereF g ks).ins.length (bodF tx x (hereF g ks)) then armF tx (arms.drop (j+1)) (pl.drop (j+1)) (addF (bodF tx x (hereF g ks)) iJump) (e++[(bodF tx x (hereF g ks)).ins.length]) else armF tx (arms.drop (j+1)) (pl.drop (j+1)) (bodF tx x (hereF g ks)) e:=by
 rw [List.drop_eq_getElem_cons (getl h),List.drop_eq_getElem_cons (getl hp)]
 rw [List.getElem?_eq_getElem (getl h)] at h
 rw [List.getElem?_eq_getElem (getl hp)] at hp
 rw [Option.some.inj h,Option.some.inj hp,armF]
 rfl
theorem sizess_drop {arms:List (List St)} {j:Nat} {x:List St} (h:arms[j]?=some x):St.sizess (arms.drop j)=2+St.sizes x+St.sizess (arms.drop (j+1)):=by
 rw [List.drop_eq_getElem_cons (getl h)]
 rw [List.getElem?_eq_getElem (getl h)] at h
 rw [Option.some.inj h,St.sizess]
theorem bod_ge (tx:List ByteArray) (l:List St) (g:Gs):g.ins.length≤(bodF tx l g).ins.length:=(bod_keep (n:=0) tx l g (Nat.zero_le _)).1.1
theorem dec_more (look:Ato) (d:De) (s:Gs) (arms:List (List Nat)):1≤(decF look d s arms).1.ins.length:=by
 obtain ⟨k,a,p,cs,es⟩:=d
 rw [decF]
 split
 ·show 1≤(addF s iJump).ins.length;rw [addF_len];omega
 split
 ·rw [addF_len];omega
 have h1:=cas_ge look cs ⟨s.ins++[iLook look]++p.map iPart,s.mo⟩ arms
 have h2:(elsF look es (casF look cs ⟨s.ins++[iLook look]++p.map iPart,s.mo⟩ arms).1 (casF look cs ⟨s.ins++[iLook look]++p.map iPart,s.mo⟩ arms).2).1.ins.length ≥ (casF look cs ⟨s.ins++[iLook look]++p.map iPart,s.mo⟩ arms).1.ins.length:=(els_keep (n:=0) look es _ _ (Nat.zero_le _) (fun _ _ _ _=>Nat.zero_le _)).1.1
 have h3:(s.ins++[iLook look]++p.map iPart).length=s.ins.length+1+p.length:=by simp;omega
 have h1:(s.ins++[iLook look]++p.map iPart).length≤(casF look cs ⟨s.ins++[iLook look]++p.map iPart,s.mo⟩ arms).1.ins.length:=h1
 show 1≤(elsF look es _ _).1.ins.length
 omega
theorem permAC (A B C:Mem):(A++(C++B)).Perm ((A++B)++C):=by
 rw [List.append_assoc]
 exact (List.perm_append_comm).append_left A
theorem arms_self {arms:List (Nat × List Nat)} {i l:Nat} {ks:List Nat} (h:arms[i]?=some (l,ks)):arms.set i (l,ks)=arms:=by
 apply List.ext_getElem?
 intro j
 rw [List.getElem?_set]
 split
 ·rename_i e
  subst e
  split
  ·exact h.symm
  rename_i q;exact absurd (getl h) q
 rfl
theorem sizess_len:∀ l:List (List St),2 * l.length≤St.sizess l
 | []=>by rw [St.sizess];exact Nat.le_refl _
 | x::l=>by
  have:=sizess_len l
  rw [St.sizess,List.length_cons];omega
theorem const_map {α β γ:Type} {l:List α} {m:List β} (h:l.length=m.length) (c:γ):(l.map fun _=>c)=m.map fun _=>c:=by
 rw [List.map_const',List.map_const',h]
set_option maxHeartbeats 8000000 in
theorem cases_c (N:Nat) (IH:BodC N) (b bt:Nat) (ls:AV) (tx:List ByteArray) (kvs:List (ByteArray × AV)) (g:Gs) (M:Mem) (t n:Int) (s:ByteArray) (look:Ato) (fs:List Int) (cp:List (List Ato)) (d:De) (arms:List (List St))
    (hN:(St.mk 9 t n s [look] fs cp d arms).size≤N+1) (hf:d.fit arms.length) (hwf:St.wfss arms) (hl:g.ins.length+2 * (St.mk 9 t n s [look] fs cp d arms).size≤100000000) (hkv:MapOk tx kvs) (hM:MkM b (.val (.map (some bt))) ls g M) :
    ACall Try.prog 24 [.ptr b 0,.agg (St.mk 9 t n s [look] fs cp d arms).cells] (M++[mapR bt kvs]) (fun _ M'=>∃ M1,M'=M1++[mapR bt kvs]∧MkM b (.val (.map (some bt))) ls (stmF tx (St.mk 9 t n s [look] fs cp d arms) g) M1):=by
 have hst:stmF tx (St.mk 9 t n s [look] fs cp d arms) g=armF tx arms (decF look d g (arms.map fun _=>[])).2 (decF look d g (arms.map fun _=>[])).1 []:=by rw [stmF,if_pos rfl];rfl
 rw [hst]
 rw [St.size] at hN hl
 obtain ⟨u0,hu0,rfl⟩:=hM
 have haln:=St.cellsss_len arms
 have hall:=sizess_len arms
 have hat0:(Ato.cellss [look])[0]?=some look.cells:=rfl
 have HD:=dec_c d.size d look b (.val (.map (some bt))) ls g
 have hdl:=dec_len look d g (arms.map fun _=>[])
 have hdm:=dec_more look d g (arms.map fun _=>[])
 have hW0:Wt g.ins.length (arms.map fun _=>([]:List Nat)):=fun l hl=>by
  obtain ⟨_,_,rfl⟩:=List.mem_map.1 hl
  exact ⟨Nat.zero_le _,fun k hk=>by simp at hk⟩
 have hdw:=dec_wt look d g (arms.map fun _=>[]) hW0
 obtain ⟨dk,da,dp,dcs,des⟩:=d
 obtain ⟨ak,an⟩:=look
 simp only [St.cells,De.cells,List.cons_append,List.nil_append] at HD ⊢
 refine Zc Try.func24 V (by kernel_rfl) V (Yq V) ?_
 refine Qi ?_
 refine QbK ?_
 refine QaE ?_
 refine QaS ?_
 refine QbF ?_;intro n12
 refine Qv ?_
 refine c_ownNew 107 1 ?_
 apply c_loopk [1,2,4,10,11,13,14,15,16,17,18,19,20,29,45,53,85,89] (σ:=Nat × List Nat × Value × Mem) (fun zz=>match zz with|(j,lbs,v,MB)=>[(4,.own v 1 (ptrs lbs)),(13,.val (.int .i64 (j:Nat)))]) (fun zz=>match zz with|(j,lbs,v,MB)=>.loc b [.val u0,.val (.map (some bt)),ls,.val (.int .i64 (g.mo:Nat))]::.row 53 7 u0 (Is.cellss g.ins)::mapR bt kvs::.own 107 1 v::MB) (fun zz=>match zz with|(j,lbs,v,MB)=>j≤arms.length∧lbs.length=j∧ArmP b (lbs.map fun l=>(l,[])) MB) (fun zz=>match zz with|(j,lbs,v,MB)=>arms.length - j) ((0,[],.slice none 0 0,[]))
 ·repeat' (first|exact Yt|apply Yr rfl|apply Ys rfl)
 ·exact ⟨Nat.zero_le _,V,armP_nil⟩
 ·exact SLe.cons V (Le.nilOwn 1) (SLe.cons V (Ym _) (SLe.nil _))
 ·exact Yl V
 rintro ⟨j,lbs,v,MB⟩ hI
 try dsimp only [List.cons_append,List.nil_append] at hI ⊢
 obtain ⟨hj,hlb,hAP⟩:=hI
 have hpl:(ptrs lbs).length=lbs.length:=by simp [ptrs]
 refine Qw ?_;intro c14 h14
 refine Qg ?_
 obtain ⟨rfl,g14⟩|⟨rfl,g14⟩:=Za h14
 ·refine Qac ?_
  have hla:lbs.length=arms.length:=by omega
  have hm1:(lbs.map fun l=>(l,([]:List Nat))).map Prod.snd=arms.map fun _=>[]:=by rw [List.map_map];exact const_map hla _
  have hm2:(lbs.map fun l=>(l,([]:List Nat))).map Prod.fst=lbs:=by rw [List.map_map];exact List.map_id lbs
  have HD:=HD (lbs.map fun l=>(l,([]:List Nat))) _ MB (Nat.le_refl _) (by rw [List.length_map,hla];exact hf) by11 (by rw [hm1];exact hW0) ⟨u0,hu0,rfl⟩ hAP
  unfold DecR at HD
  rw [hm1,hm2] at HD
  refine Yh [0,1,2,3,4,5,6,7,8] [8] [[],[],[1],[],[3],[3,4],[3,4,5],[],[0,1,2,3,4,5,6,7]] tmix V ?_
  refine QD ?_
  refine Zf 22 (none) (i:=1) V V V V V (op_fieldAddr_c V tf_51_7 V V ⟨V,V⟩) ?_
  refine Qdc ?_
  refine QaF ?_
  refine Zf 26 (none) (i:=5) V V V V V (Zj V te_42 V (.seq _ _) V V (hat0) ⟨V,V⟩) ?_
  refine Qdd ?_
  refine QD ?_
  refine EOps.wh (i:=8) V V V V (op_callg (xs:=[.tmp 21,.tmp 23,.tmp 27,.tmp 28])  V V HD by0 (permAC [_,_] _ [_,_]) (fun v29 M29 h29=>?_))
  show AGo _ _ _ _ _ _ _
  refine QV ?_
  obtain ⟨M1,MA2,arms2,rfl,⟨u1,hu1,rfl⟩,hA2,hf2,hs2⟩:=h29
  obtain ⟨r0,hr0⟩:∃ r0,decF (Ato.mk ak an) (De.mk dk da dp dcs des) g (arms.map fun _=>[])=r0:=⟨_,rfl⟩
  rw [hr0] at hu1 hs2 hdl hdm hdw
  rw [hr0]
  refine ACode.perm (permAC [_,_] MA2 [_,_]).symm ?_
  have hl2:arms2.length=arms.length:=by have:=congrArg List.length hf2;simp at this;omega
  refine Qk ?_
  refine QcT ?_
  refine QcU ?_;intro b31
  refine Qbj ?_
  refine c_ownF 133 1 ?_
  refine QcV ?_
  refine ACode.perm (pick_perm (is:=[2,2,1,0,0,0]) V) ?_
  refine QaV ?_
  refine QbF ?_;intro n34
  refine Qv ?_
  apply c_loopk (rg [(1,3),(6,27),(35,52),(89,1)]) (σ:=Nat × Gs × List Nat × Value × Value × Mem) (fun zz=>match zz with|(j,gj,e,u,w,MB)=>[(35,.val (.int .i64 (j:Nat)))]) (fun zz=>match zz with|(j,gj,e,u,w,MB)=>.loc b [.val u,.val (.map (some bt)),ls,.val (.int .i64 (gj.mo:Nat))]::.row 53 7 u (Is.cellss gj.ins)::.loc b31 [.own w 1 (e.map (pat b))]::.own 133 1 w::mapR bt kvs::.own 107 1 v::MB) (fun zz=>match zz with|(j,gj,e,u,w,MB)=>j≤arms.length∧((u=.slice none 0 0∧gj.ins=[])∨∃ gb cap,u=rowv gb gj.ins.length cap)∧ArmP b arms2 MB∧armF tx arms r0.2 r0.1 []=armF tx (arms.drop j) (r0.2.drop j) gj e∧Wt gj.ins.length r0.2∧Wt gj.ins.length [e]∧1≤gj.ins.length∧gj.ins.length+2 * St.sizess (arms.drop j)≤100000000) (fun zz=>match zz with|(j,gj,e,u,w,MB)=>arms.length - j) ((0,r0.1,[],u1,.slice none 0 0,MA2))
  ·repeat' (first|exact Yt|apply Yr rfl|apply Ys rfl)
  ·exact ⟨Nat.zero_le _,hu1,hA2,rfl,hdw.1,fun l hl=>by simp at hl;subst hl;exact ⟨Nat.zero_le _,fun k hk=>by simp at hk⟩,hdm,by show r0.1.ins.length+2 * St.sizess arms≤_;omega⟩
  ·exact by2
  ·exact Yl V
  rintro ⟨j,gj,e,u,w,MB⟩ hI
  try dsimp only [List.cons_append,List.nil_append] at hI ⊢
  obtain ⟨hj2,hu2,hAP2,hc2,hW2,hWe,h1g,hsz⟩:=hI
  refine Qw ?_;intro c36 h36
  refine Qg ?_
  obtain ⟨rfl,g36⟩|⟨rfl,g36⟩:=Za h36
  ·refine Qao ?_
   refine Qj ?_
   rw [List.drop_eq_nil_of_le by11,armF] at hc2
   have HH2:=here_c b b31 (.val (.map (some bt))) ls gj e _ _ ⟨u,hu2,rfl⟩ ⟨w,rfl⟩ (hWe e by12).2
   refine Qaz ?_
   refine Zb 89 V V V (Yd [0,0,0,0] (xs:=[.tmp 87,.tmp 88])  V V V HH2 by0 (fun v89 M89 h89=>?_))
   refine Qz ?_
   refine go_end ?_
   obtain ⟨M1,rfl,u5,hu5,rfl⟩:=h89
   exact out_none V (Yj _ (Yj _ (Yk _ (Yk _ (Yj _ (MLe.none _)))))) ⟨_,V,⟨u5,by rw [hc2];exact hu5,by rw [hc2]⟩⟩
  refine Qp ?_
  obtain ⟨x,hx⟩:=Zh (l:=arms) (i:=j) by11
  have hcx:=St.cellsss_get hx
  have hsd:=sizess_drop hx
  have hwx:=(St.wfss_iff arms).1 hwf x (Yu hx)
  have hNx:=St.sizess_get hx
  obtain ⟨⟨l,kl⟩,hlk⟩:=Zh (l:=arms2) (i:=j) by11
  have hks:r0.2[j]?=some kl:=by rw [← hs2];simp [hlk]
  have hpt:(ptrs lbs)[j]?=some [.ptr l 0]:=by
   have:lbs[j]?=some l:=by rw [← hm2,← hf2] at *;simp [hlk]
   simp [ptrs,this]
  have hwk:=hW2 kl (Yu hks)
  rw [arm_step gj e hx hks] at hc2
  obtain ⟨ML,MR,q1,q2,q3⟩:=armP_pick hAP2 hlk
  have q4:=q3 kl _ q1
  rw [arms_self hlk] at q4
  obtain ⟨wl,rfl⟩:=q1
  refine ACode.perm (q2.append_left [_,_,_,_,_,_]) ?_
  have HH:=here_c b l (.val (.map (some bt))) ls gj kl _ _ ⟨u,hu2,rfl⟩ ⟨wl,rfl⟩ hwk.2
  have hhl:=here_len kl gj
  obtain ⟨g1,hg1⟩:∃ g1,hereF gj kl=g1:=⟨_,rfl⟩
  rw [hg1] at HH hc2 hhl
  refine Qn ?_
  refine Zb 38 V V V (Zj V te_49 V (.seq _ _) V V (hcx) ?_)
  refine QR ?_
  refine Qa3 ?_
  refine QaK ?_
  refine Qa ?_
  refine Zb 43 V V V (Zj V te_106 V (.own _ _ _) V V (hpt) ?_)
  refine QR ?_
  refine Zb 45 V V V (Yd [0,0,4,4] (xs:=[.tmp 40,.tmp 44])  V V V HH by0 (fun v45 M45 h45=>?_))
  refine Qg ?_
  obtain ⟨M1,rfl,u2,hu3,rfl⟩:=h45
  have hn1:=Is.cellss_len g1.ins
  have HB:=IH x b bt ls tx kvs g1 _ by11 hwx by11 hkv ⟨u2,hu3,rfl⟩
  have hbg:=bod_ge tx x g1
  have hbl:=bod_len tx x g1
  obtain ⟨g2,hg2⟩:∃ g2,bodF tx x g1=g2:=⟨_,rfl⟩
  rw [hg2] at HB hc2 hbg hbl
  refine Qn ?_
  refine Qan ?_
  refine Qt ?_
  refine Qb3 ?_;intro n50
  refine QaK ?_
  refine Zb 53 V V V (Yd [0,0,4] (xs:=[.tmp 51,.tmp 52])  V V V HB by0 (fun v53 M53 h53=>?_))
  refine Qg ?_
  obtain ⟨M1,rfl,u3,hu4,rfl⟩:=h53
  have hn2:=Is.cellss_len g2.ins
  refine ACode.perm (pick_perm (is:=[0,0,3,3,0,2]) V) ?_
  obtain ⟨gb,cap,rfl⟩:=hu4.resolve_left (fun q=>absurd (show 0<g2.ins.length by omega) (by rw [q.2];decide))
  obtain ⟨i,hi⟩:=Zh (l:=g2.ins) (i:=g2.ins.length - 1) by11
  have hci:=Is.cellss_get hi
  have HE:=gends_c i
  have hWe2:Wt g2.ins.length [e]:=hWe.mono by11
  have hWf:=hW2.mono (show gj.ins.length≤g2.ins.length by omega)
  have hop:opn g1.ins.length g2↔(g2.ins.length=g1.ins.length∨¬ endOp i.op∨g2.mo=g2.ins.length):=by
   unfold opn
   rw [hi]
   simp
  obtain ⟨iop,ia,ib,iN,iar,ifs,icp⟩:=i
  simp only [Is.cells,Is.op] at hci HE hop
  refine Qn ?_
  refine Qan ?_
  refine Qt ?_
  refine Qb3 ?_;intro n58
  refine Qu ?_
  refine Zo 81 (opn g1.ins.length g2) ?_ _ _ V ?_
  ·skip
   refine Qa ?_
   refine Qa ?_
   refine Qx ?_;intro c61 h61
   refine Qa ?_
   obtain ⟨rfl,g61⟩|⟨rfl,g61⟩:=Za h61
   ·skip
    refine QE ?_
    refine Qck ?_
    refine QL ?_
    refine QE ?_
    refine QbW ?_
    refine Zg 69 V V V V V (op_index_row (i:=1) (k:=(g2.ins.length - 1)) V te_30 V V V by7 by11 ?_)
    refine Zg 70 V V V V V (op_load_row (i:=1) (k:=(g2.ins.length - 1)) V Zi V V V (hci) (Zg 71 V V V V V (Zk (xs:=[.tmp 70]) V V (HE) by0 ?_)));intro c71 h71
    refine QU ?_;intro c72 h72
    try replace h72:=Yg h72 h71
    refine Qh ?_
    obtain ⟨rfl,g72⟩|⟨rfl,g72⟩:=Za h72
    ·skip
     refine QE ?_
     refine Qck ?_
     refine QL ?_
     refine QE ?_
     refine QbB ?_;intro c80 h80
     refine QH ?_
     refine Yp V ?_ by4 by1
     clear HD HH HB IH;rw [hop];first|(simp_all;done)|(simp_all;omega)|omega|grind
    skip
    refine Qa0 ?_
    refine Yp V ?_ by4 by1
    clear HD HH HB IH;rw [hop];first|(simp_all;done)|(simp_all;omega)|omega|grind
   skip
   refine Qf ?_
   refine Qf ?_
   refine Qag ?_
   refine QX ?_
   refine Qaq ?_
   refine Yp V ?_ by4 by1
   clear HD HH HB IH;rw [hop];first|(simp_all;done)|(simp_all;omega)|omega|grind
  intro c81 h81
  refine Qj ?_
  obtain ⟨rfl,g81⟩|⟨rfl,g81⟩:=Za h81
  ·refine Qaa ?_
   first
   | (rw [if_neg g81] at hc2
      exact ⟨(j+1,g2,e,_,w,_),⟨by show j+1≤arms.length;omega,.inr ⟨gb,cap,V⟩,q4,hc2,hWf,hWe2,by show 1≤g2.ins.length;omega,by show g2.ins.length+2 * St.sizess (arms.drop (j+1))≤_;omega⟩,by show arms.length - (j+1)<arms.length - j;omega,by2,Yl V⟩)
   | (obtain ⟨M1,M2,rfl,⟨u5,hu5,rfl⟩,⟨w2,rfl⟩⟩:=h85
      rw [if_pos g81] at hc2
      have haf:=addF_len g2 iJump
      have hWj:Wt (addF g2 iJump).ins.length [e++[g2.ins.length]]:=by
       intro l hl
       rw [List.mem_singleton.1 hl]
       obtain ⟨h1,h2⟩:=hWe2 e (List.mem_singleton.2 rfl)
       rw [haf]
       refine ⟨by rw [List.length_append];exact Nat.add_le_add h1 (Nat.le_refl 1),fun k hk=>?_⟩
       rcases List.mem_append.1 hk with q|q
       ·have:=h2 k q;omega
       rw [List.mem_singleton.1 q];omega
      exact ⟨(j+1,addF g2 iJump,e++[g2.ins.length],u5,w2,_),⟨by show j+1≤arms.length;omega,hu5,q4,hc2,hWf.mono (show g2.ins.length≤(addF g2 iJump).ins.length by omega),hWj,by show 1≤(addF g2 iJump).ins.length;omega,by show (addF g2 iJump).ins.length+2 * St.sizess (arms.drop (j+1))≤_;omega⟩,by show arms.length - (j+1)<arms.length - j;omega,by2,Yl V⟩)
  refine QO ?_
  have HJ:=jump_c b b31 (.val (.map (some bt))) ls g2 e iJump _ _ ⟨rowv gb g2.ins.length cap,.inr ⟨gb,cap,rfl⟩,rfl⟩ by11 ⟨w,rfl⟩ (by have:=(hWe2 e by12).1;omega)
  refine Qn ?_
  refine Qdb ?_
  refine Qa ?_
  refine Zb 85 V V V (Yd [0,0,0,0] (xs:=[.tmp 82,.tmp 83,.tmp 84])  V V V HJ by0 (fun v85 M85 h85=>?_))
  refine Qz ?_
  refine QT ?_
  first
  | (rw [if_neg g81] at hc2
     exact ⟨(j+1,g2,e,_,w,_),⟨by show j+1≤arms.length;omega,.inr ⟨gb,cap,V⟩,q4,hc2,hWf,hWe2,by show 1≤g2.ins.length;omega,by show g2.ins.length+2 * St.sizess (arms.drop (j+1))≤_;omega⟩,by show arms.length - (j+1)<arms.length - j;omega,by2,Yl V⟩)
  | (obtain ⟨M1,M2,rfl,⟨u5,hu5,rfl⟩,⟨w2,rfl⟩⟩:=h85
     rw [if_pos g81] at hc2
     have haf:=addF_len g2 iJump
     have hWj:Wt (addF g2 iJump).ins.length [e++[g2.ins.length]]:=by
      intro l hl
      rw [List.mem_singleton.1 hl]
      obtain ⟨h1,h2⟩:=hWe2 e (List.mem_singleton.2 rfl)
      rw [haf]
      refine ⟨by rw [List.length_append];exact Nat.add_le_add h1 (Nat.le_refl 1),fun k hk=>?_⟩
      rcases List.mem_append.1 hk with q|q
      ·have:=h2 k q;omega
      rw [List.mem_singleton.1 q];omega
     exact ⟨(j+1,addF g2 iJump,e++[g2.ins.length],u5,w2,_),⟨by show j+1≤arms.length;omega,hu5,q4,hc2,hWf.mono (show g2.ins.length≤(addF g2 iJump).ins.length by omega),hWj,by show 1≤(addF g2 iJump).ins.length;omega,by show (addF g2 iJump).ins.length+2 * St.sizess (arms.drop (j+1))≤_;omega⟩,by show arms.length - (j+1)<arms.length - j;omega,by2,Yl V⟩)
 refine QO ?_
 refine c_skip ?_
 refine QV ?_
 refine QN ?_
 refine Qn ?_
 refine QcT ?_
 refine QcU ?_;intro b17
 refine Zb 18 V V V (Zr (xs:=[.tmp 17]) el_106 V V V V V V (Yq V) (Zb 19 V V V (op_append (i:=4) el_106 V V V V (.seq _ _) by5 ?_)))
 intro u19
 refine QaH ?_
 refine QaJ ?_
 refine c_ownF 133 1 ?_
 refine QcV ?_
 refine ACode.perm (pick_perm (is:=[2,2,2,2,1,0]) V) ?_
 refine Qk ?_
 refine QS ?_
 refine Qa ?_
 refine Qz ?_
 refine go_lp ?_
 exact ⟨(j+1,lbs++[b17],u19,_),⟨by show j+1≤arms.length;omega,by simp [hlb],by
  rw [List.map_append]
  exact armP_snoc hAP ⟨.slice none 0 0,V⟩⟩,by show arms.length - (j+1)<arms.length - j;omega,(by repeat' (first|exact SLe.nil _|refine SLe.cons V ?_ ?_|exact Ym _|exact Le.own _ _ _|exact Le.nil _|(refine Le.own_eq ?_;simp [ptrs];rfl)|(refine Le.own_seq ?_;simp [ptrs];rfl)|(refine Le.seq_eq ?_;simp [ptrs];rfl))),Yl V⟩
theorem sizes_drop {l:List St} {j:Nat} {x:St} (h:l[j]?=some x):St.sizes (l.drop j)=x.size+St.sizes (l.drop (j+1)):=by
 rw [List.drop_eq_getElem_cons (getl h)]
 rw [List.getElem?_eq_getElem (getl h)] at h
 rw [Option.some.inj h,St.sizes]
theorem bod_drop {tx:List ByteArray} {l:List St} {j:Nat} {x:St} (h:l[j]?=some x) (g:Gs):bodF tx (l.drop j) g=bodF tx (l.drop (j+1)) (stmF tx x g):=by
 rw [List.drop_eq_getElem_cons (getl h)]
 rw [List.getElem?_eq_getElem (getl h)] at h
 rw [Option.some.inj h,bodF]
theorem stm_plain {tx:List ByteArray} {k t n:Int} {s:ByteArray} {ar:List Ato} {fs:List Int} {cp:List (List Ato)} {d:De} {arms:List (List St)} (g:Gs) (h:¬ k=9):stmF tx (St.mk k t n s ar fs cp d arms) g=addF g (plainF tx k t n s ar fs cp):=by rw [stmF,if_neg h]
set_option maxHeartbeats 8000000 in
theorem bodStep_c (N:Nat) (HC:∀ (b bt:Nat) (ls:AV) (tx:List ByteArray) (kvs:List (ByteArray × AV)) (g:Gs) (M:Mem) (t n:Int) (s:ByteArray) (look:Ato) (fs:List Int) (cp:List (List Ato)) (d:De) (arms:List (List St)),
    (St.mk 9 t n s [look] fs cp d arms).size≤N→d.fit arms.length→St.wfss arms→g.ins.length+2 * (St.mk 9 t n s [look] fs cp d arms).size≤100000000→MapOk tx kvs→MkM b (.val (.map (some bt))) ls g M →
    ACall Try.prog 24 [.ptr b 0,.agg (St.mk 9 t n s [look] fs cp d arms).cells] (M++[mapR bt kvs]) (fun _ M'=>∃ M1,M'=M1++[mapR bt kvs]∧MkM b (.val (.map (some bt))) ls (stmF tx (St.mk 9 t n s [look] fs cp d arms) g) M1)):BodC N:=by
 intro l b bt ls tx kvs g M hN hwf hl hkv hM
 obtain ⟨u0,hu0,rfl⟩:=hM
 have hll:=St.cellss_len l
 refine Zc Try.func11 V (by kernel_rfl) V (Yq V) ?_
 refine QJ ?_
 refine Qr ?_
 refine Qb8 ?_;intro n7
 refine Qv ?_
 apply c_loopk (rg [(1,5),(8,16)]) (σ:=Nat × Gs × Value) (fun zz=>match zz with|(j,gj,u)=>[(8,.val (.int .i64 (j:Nat)))]) (fun zz=>match zz with|(j,gj,u)=>[.loc b [.val u,.val (.map (some bt)),ls,.val (.int .i64 (gj.mo:Nat))],.row 53 7 u (Is.cellss gj.ins),mapR bt kvs]) (fun zz=>match zz with|(j,gj,u)=>j≤l.length∧((u=.slice none 0 0∧gj.ins=[])∨∃ gb cap,u=rowv gb gj.ins.length cap)∧bodF tx l g=bodF tx (l.drop j) gj∧gj.ins.length+2 * St.sizes (l.drop j)≤100000000) (fun zz=>match zz with|(j,gj,u)=>l.length - j) ((0,g,u0))
 ·repeat' (first|exact Yt|apply Yr rfl|apply Ys rfl)
 ·exact ⟨Nat.zero_le _,hu0,V,hl⟩
 ·exact by2
 ·exact Yl V
 rintro ⟨j,gj,u⟩ hI
 try dsimp only [List.cons_append,List.nil_append] at hI ⊢
 obtain ⟨hj,hu,hc,hsz⟩:=hI
 refine Qw ?_;intro c9 h9
 refine Qg ?_
 obtain ⟨rfl,g9⟩|⟨rfl,g9⟩:=Za h9
 ·refine Qao ?_
  refine go_end ?_
  rw [List.drop_eq_nil_of_le by11,bodF] at hc
  exact out_none V (Yi _) ⟨_,V,⟨u,by rw [hc];exact hu,by rw [hc]⟩⟩
 refine Qp ?_
 obtain ⟨x,hx⟩:=Zh (l:=l) (i:=j) by11
 have hcx:=St.cellss_get hx
 have hsd:=sizes_drop hx
 have hsx:=St.sizes_get hx
 have hwx:=(St.wfs_iff l).1 hwf x (Yu hx)
 rw [bod_drop hx] at hc
 have hsl:=stm_len tx x gj
 obtain ⟨k,t,n,s,ar,fs,cp,d,arms⟩:=x
 have HP:=plain_c b bt u ls (.val (.int .i64 (gj.mo:Nat))) tx kvs hkv k t n s ar fs cp d arms
 have HA:=add_c b (.val (.map (some bt))) ls gj (plainF tx k t n s ar fs cp) _ ⟨u,hu,rfl⟩ by11
 obtain ⟨dk,da,dp,dcs,des⟩:=d
 simp only [St.cells,De.cells,List.cons_append,List.nil_append] at hcx HP
 refine Qk ?_
 refine QcK ?_
 refine QbS ?_
 refine QcL ?_;intro b5
 refine QcM ?_
 refine Qg ?_
 refine Qy ?_
 refine Qt ?_
 refine Qx ?_;intro c14 h14
 refine Qd ?_
 obtain ⟨rfl,g14⟩|⟨rfl,g14⟩:=Za h14
 ·refine QB ?_
  refine Qj ?_
  refine Qaz ?_
  refine Qcv ?_
  refine Zb 21 V V V (op_callk (xs:=[.tmp 19,.tmp 20]) [1,2] V V V (HP) by0 ?_)
  refine Zb 22 V V V (Yd [1,1] (xs:=[.tmp 18,.tmp 21])  V V V HA by0 (fun v22 M22 h22=>?_))
  refine Qz ?_
  refine QT ?_
  first
  | (obtain ⟨M1,rfl,u2,hu2,rfl⟩:=h17
     exact ⟨(j+1,stmF tx (St.mk 9 t n s [look] fs cp (De.mk dk da dp dcs des) arms) gj,u2),⟨by show j+1≤l.length;omega,hu2,hc,by show (stmF tx (St.mk 9 t n s [look] fs cp (De.mk dk da dp dcs des) arms) gj).ins.length+2 * St.sizes (l.drop (j+1))≤_;omega⟩,by show l.length - (j+1)<l.length - j;omega,by2,Yj _ (Yj _ (Yj _ (MLe.none _)))⟩)
  | (obtain ⟨u2,hu2,rfl⟩:=h22
     rw [stm_plain gj g14] at hc hsl
     exact ⟨(j+1,addF gj (plainF tx k t n s ar fs cp),u2),⟨by show j+1≤l.length;omega,hu2,hc,by show (addF gj (plainF tx k t n s ar fs cp)).ins.length+2 * St.sizes (l.drop (j+1))≤_;omega⟩,by show l.length - (j+1)<l.length - j;omega,by2,Yj _ (Yj _ (Yk _ (Yj _ (MLe.none _))))⟩)
 refine Qas ?_
 obtain ⟨h1,h2,h3⟩:=(by rw [St.wf] at hwx;exact hwx g14:ar.length=1∧(De.mk dk da dp dcs des).fit arms.length∧St.wfss arms)
 obtain ⟨look,rfl⟩:∃ look,ar=[look]:=by
  cases ar with
  | nil=>simp at h1
  | cons y r=>cases r with
   | nil=>exact ⟨y,rfl⟩
   | cons z r=>simp at h1
 subst g14
 have HC:=HC b bt ls tx kvs gj _ t n s look fs cp (De.mk dk da dp dcs des) arms by11 h2 h3 by11 hkv ⟨u,hu,rfl⟩
 simp only [St.cells,De.cells,List.cons_append,List.nil_append] at HC
 refine Qn ?_
 refine Qcv ?_
 refine Zb 17 V V V (Yd [1,1,1] (xs:=[.tmp 15,.tmp 16])  V V V HC by0 (fun v17 M17 h17=>?_))
 refine Qd ?_
 refine c_exit (x_code (x_here ?_))
 refine Qj ?_
 refine Qk ?_
 refine QS ?_
 refine Qa ?_
 refine Qz ?_
 refine go_lp ?_
 first
 | (obtain ⟨M1,rfl,u2,hu2,rfl⟩:=h17
    exact ⟨(j+1,stmF tx (St.mk 9 t n s [look] fs cp (De.mk dk da dp dcs des) arms) gj,u2),⟨by show j+1≤l.length;omega,hu2,hc,by show (stmF tx (St.mk 9 t n s [look] fs cp (De.mk dk da dp dcs des) arms) gj).ins.length+2 * St.sizes (l.drop (j+1))≤_;omega⟩,by show l.length - (j+1)<l.length - j;omega,by2,Yj _ (Yj _ (Yj _ (MLe.none _)))⟩)
 | (obtain ⟨u2,hu2,rfl⟩:=h22
    rw [stm_plain gj g14] at hc hsl
    exact ⟨(j+1,addF gj (plainF tx k t n s ar fs cp),u2),⟨by show j+1≤l.length;omega,hu2,hc,by show (addF gj (plainF tx k t n s ar fs cp)).ins.length+2 * St.sizes (l.drop (j+1))≤_;omega⟩,by show l.length - (j+1)<l.length - j;omega,by2,Yj _ (Yj _ (Yk _ (Yj _ (MLe.none _))))⟩)
theorem body_c:∀ N:Nat,BodC N
 | 0=>bodStep_c 0 fun b bt ls tx kvs g M t n s look fs cp d arms h=>by rw [St.size] at h;omega
 | N+1=>bodStep_c (N+1) (cases_c N (body_c N))
mutual
theorem stmT_len:∀ (x:St) (out:List ByteArray),(stmT x out).length≤out.length+x.size
 | .mk k t n s ar fs cp d arms,out=>by
  rw [stmT,St.size]
  have h:=armT_len arms (if k=2∧s∉out then out++[s] else out)
  have h2:(if k=2∧s∉out then out++[s] else out).length≤out.length+1:=by split <;> simp
  omega
theorem bodT_len:∀ (l:List St) (out:List ByteArray),(bodT l out).length≤out.length+St.sizes l
 | [],out=>by rw [bodT];exact Nat.le_add_right _ _
 | x::l,out=>by
  rw [bodT,St.sizes]
  have h1:=stmT_len x out
  have h2:=bodT_len l (stmT x out)
  omega
theorem armT_len:∀ (l:List (List St)) (out:List ByteArray),(armT l out).length≤out.length+St.sizess l
 | [],out=>by rw [armT];exact Nat.le_add_right _ _
 | x::l,out=>by
  rw [armT,St.sizess]
  have h1:=bodT_len x out
  have h2:=armT_len l (bodT x out)
  omega
end
theorem bodT_drop {l:List St} {j:Nat} {x:St} (h:l[j]?=some x) (out:List ByteArray):bodT (l.drop j) out=bodT (l.drop (j+1)) (stmT x out):=by
 rw [List.drop_eq_getElem_cons (getl h)]
 rw [List.getElem?_eq_getElem (getl h)] at h
 rw [Option.some.inj h,bodT]
theorem armT_drop {l:List (List St)} {j:Nat} {x:List St} (h:l[j]?=some x) (out:List ByteArray):armT (l.drop j) out=armT (l.drop (j+1)) (bodT x out):=by
 rw [List.drop_eq_getElem_cons (getl h)]
 rw [List.getElem?_eq_getElem (getl h)] at h
 rw [Option.some.inj h,armT]
theorem mget_mput (s s':ByteArray) (x:AV):∀ kvs:List (ByteArray × AV),mget s (mput s' x kvs)=if s=s' then some x else mget s kvs
 | []=>by
  rw [mput,mget,mget]
  by_cases h:s=s'
  ·rw [if_pos h.symm,if_pos h]
  rw [if_neg (fun e=>h e.symm),if_neg h];rfl
 |(k,v)::kvs=>by
  rw [mput]
  by_cases hk:k=s'
  ·rw [if_pos hk,mget,mget]
   by_cases h:s=s'
   ·rw [if_pos h.symm,if_pos h]
   rw [if_neg (fun e=>h e.symm),if_neg h,if_neg (fun e=>h (e.symm.trans hk))]
  rw [if_neg hk,mget,mget,mget_mput s s' x kvs]
  by_cases h:s=s'
  ·rw [if_pos h,if_pos h,if_neg (fun e=>hk (e.trans h))]
  rw [if_neg h,if_neg h]
def MetOk (out:List ByteArray) (kvs:List (ByteArray × AV)):Prop:=∀ s,∃ m:Bool,(m=true↔s∈out)∧(mget s kvs).getD (.val (.bool false))=.val (.bool m)
theorem met_nil:MetOk [] []:=fun _=>⟨false,by simp,rfl⟩
theorem met_put {out:List ByteArray} {kvs:List (ByteArray × AV)} (h:MetOk out kvs) (s:ByteArray):MetOk (out++[s]) (mput s (.val (.bool true)) kvs):=by
 intro s2
 rw [mget_mput]
 by_cases e:s2=s
 ·rw [if_pos e];exact ⟨true,by simp [e],rfl⟩
 rw [if_neg e]
 obtain ⟨m,h1,h2⟩:=h s2
 exact ⟨m,by rw [h1];simp [e],h2⟩
end Go.Proofs.Ytbfogofpgcndfaa
